/- slices.DeleteFunc at the closure of the program's words, over a row of the call's own: what is left are the words of the code. -/
import Derived.Lib.SliceRun
import Derived.Test.YtopmcoohdhlnaaaDoorG8
namespace Go.Proofs.YtopmcoohdhlnaaaDoor.G
open Go.RowKit Go.Lib Go.Proofs.YtopmcoohdhlnaaaDoorW.PrintWords Go.Proofs.YtopmcoohdhlnaaaDoorW.PrintLast Go.Proofs.YtopmcoohdhlnaaaDoorW.PrintMore
set_option linter.unusedVariables false

/-- The block in which a code lies. -/
def IsBox (w : World) (g : Nat) (a0 a1 a2 a3 a4 : Int) : Prop := w.heap[g]? = some (.cells #[.int .i64 a0, .int .i64 a1, .int .i64 a2, .int .i64 a3, .int .i64 a4] 68 (0, 0))
theorem IsBox.below {w w1 : World} {g : Nat} {a0 a1 a2 a3 a4 : Int} (h : IsBox w g a0 a1 a2 a3 a4) (hb : Below w.heap.size w w1) : IsBox w1 g a0 a1 a2 a3 a4 := (hb.block g (Array.getElem?_eq_some_iff.1 h).1).trans h
theorem not_calls (g : Nat) (a0 a1 a2 a3 a4 : Int) (x : ByteArray) (w : World) (hbx : IsBox w g a0 a1 a2 a3 a4) (h : okCode a0 a1 a2 a3 a4) :
    Calls Tryd.prog 62 #[.string x, .pointer (some ⟨g, 0, none⟩)] w fun e w' => e = .returned (.bool (!inB a0 a1 a2 a3 a4 x)) ∧ Below w.heap.size w w' := by
  have c0 : w.cell? ⟨g, 0, none⟩ = some (.int .i64 a0) := (blk_cell hbx 0).trans rfl
  have c1 : w.cell? ⟨g, 1, none⟩ = some (.int .i64 a1) := (blk_cell hbx 1).trans rfl
  have c2 : w.cell? ⟨g, 2, none⟩ = some (.int .i64 a2) := (blk_cell hbx 2).trans rfl
  have c3 : w.cell? ⟨g, 3, none⟩ = some (.int .i64 a3) := (blk_cell hbx 3).trans rfl
  have c4 : w.cell? ⟨g, 4, none⟩ = some (.int .i64 a4) := (blk_cell hbx 4).trans rfl
  have hu68 := Tryd.underlying68
  have HC := Lib.hid h; clear h hbx
  go_enter Tryd.func62, Tryd.ntmps62
  go_wp2_with fail
  refine (in_calls a0 a1 a2 a3 a4 x _ HC.out).mono ?_
  rintro e w1 ⟨rfl, hbw⟩
  obtain ⟨b, hbb⟩ : ∃ b, inB a0 a1 a2 a3 a4 x = b := ⟨_, rfl⟩
  rw [hbb]
  have HBB := Lib.hid hbb
  clear c0 c1 c2 c3 c4 hbb
  go_wp2
  go_ret
  exact ⟨by rw [HBB.out]; rfl, hbw⟩
set_option maxHeartbeats 2000000 in
set_option maxRecDepth 100000 in
theorem index_not (g : Nat) (a0 a1 a2 a3 a4 : Int) (A : Option Addr) (c : Nat) (l : List ByteArray) (w : World) (hr : Kd.C Kd.string w A l.length l) (hl : l.length ≤ 1000000000) (hbx : IsBox w g a0 a1 a2 a3 a4) (hc : okCode a0 a1 a2 a3 a4) :
    Calls Tryd.prog 54 #[.slice A l.length c, .func (.func 62) #[] #[.pointer (some ⟨g, 0, none⟩)]] w (IdxPost (fun x => !inB a0 a1 a2 a3 a4 x) l w) := by
  have HR := Lib.hid hr; clear hr
  have HC := Lib.hid hc; clear hc
  have HX0 := Lib.hid hbx; clear hbx
  go_enter Tryd.func54, Tryd.ntmps54
  go_wp2
  go_loopw [8] (fun i wr => ∃ k : Nat, k ≤ l.length ∧ i = .int .i64 k ∧ Hid (∀ j (hj : j < l.length), j < k → (fun x => !inB a0 a1 a2 a3 a4 x) (l[j]'hj) = false) ∧ Below w.heap.size w wr) (fun i _ => l.length - (Go.RowKit.intOf i).toNat)
  case atStart => exact ⟨0, Nat.zero_le _, rfl, Lib.hid (fun j hj h => absurd h (by omega)), Below.refl _ _⟩
  case round =>
    obtain ⟨k, hk, rfl, HF, hb⟩ := hrel
    by_cases hlt : k < l.length
    · obtain ⟨ad, e2, hx⟩ := Kd.at_string (Kd.C_below HR.out hb) (k : Int) (by omega) (by omega)
      cases e2
      rw [rd_nat8 l k hlt, Int.toNat_natCast] at hx
      obtain ⟨x, hxx⟩ : ∃ x, l[k]'hlt = x := ⟨_, rfl⟩
      rw [hxx] at hx
      have HX := Lib.hid hxx; clear hxx
      have hdec : decide ((k : Int) < (l.length : Int)) = true := by simp; omega
      go_wp2_with fail
      refine (not_calls g a0 a1 a2 a3 a4 x _ (HX0.out.below hb) HC.out).mono ?_
      rintro e w1 ⟨rfl, hbw⟩
      have hb3 : Below w.heap.size w w1 := hb.trans (hbw.mono hb.size)
      clear hb hbw hx
      obtain ⟨b, hbb⟩ : ∃ b, (!inB a0 a1 a2 a3 a4 x) = b := ⟨_, rfl⟩
      rw [hbb]
      have HBB := Lib.hid hbb; clear hbb
      cases b
      · go_wp2
        go_roundw
        case rel => exact ⟨k + 1, by omega, by go_num, Lib.hid (upto_step (p := fun x => !inB a0 a1 a2 a3 a4 x) HF.out hlt (by rw [HX.out]; exact HBB.out)), hb3⟩
        case measure => simp [Go.RowKit.intOf]; omega
      · go_wp2
        go_ret
        exact .inl ⟨k, hlt, rfl, by rw [HX.out]; exact HBB.out, HF.out, hb3⟩
    · obtain rfl : k = l.length := by omega
      go_wp2
      go_ret
      exact .inr ⟨rfl, fun j hj => HF.out j hj hj, hb⟩

/-! ### a row of words that is written in place -/
abbrev Row (w : World) (B g n cap : Nat) (xs : List ByteArray) : Prop := Kd.R Kd.string 9 w B (fun _ => True) (.slice (some ⟨g, 0, none⟩) n cap) xs
theorem Row.len {w : World} {B g n cap : Nat} {xs : List ByteArray} (h : Row w B g n cap xs) : xs.length = n := by
  rcases (Kd.own_of_R h).2 with ⟨h0, _⟩ | ⟨_, _, _, hv, _⟩
  · cases h0
  · cases hv; rfl
theorem Row.base {w : World} {B g n cap : Nat} {xs : List ByteArray} (h : Row w B g n cap xs) : B ≤ g := Kd.R_base h g rfl
theorem Row.put {w : World} {B g n cap : Nat} {xs : List ByteArray} (h : Row w B g n cap xs) (i : Nat) (x : ByteArray) : Row (w.setCell ⟨g, i, none⟩ (.string x)) B g n cap (xs.set i x) ∧ w.grownBy (w.setCell ⟨g, i, none⟩ (.string x)) (some g) := by
  have hl := h.len
  subst hl
  have := Kd.R_put (enc := Value.string) (h1 := fun _ => rfl) h (i : Int) x
  rw [Int.toNat_natCast] at this
  exact this
theorem Row.cell {w : World} {B g n cap : Nat} {xs : List ByteArray} (h : Row w B g n cap xs) (i : Nat) (hi : i < n) : w.cell? ⟨g, i, none⟩ = some (.string (xs.getD i ByteArray.empty)) ∧ w.frozen? ⟨g, i, none⟩ = false := by
  have hl := h.len
  subst hl
  have := Kd.R_cell (enc := Value.string) (h1 := fun _ => rfl) ByteArray.empty h (i : Int) (by omega) (by omega)
  unfold rdOf at this
  rw [Int.toNat_natCast] at this
  exact this
theorem Row.below {w w1 : World} {B g n cap : Nat} {xs : List ByteArray} (h : Row w B g n cap xs) (hb : Below w.heap.size w w1) : Row w1 B g n cap xs := Kd.R_below h hb
theorem Row.prefix_ {w : World} {B g n cap : Nat} {xs : List ByteArray} (h : Row w B g n cap xs) (i : Nat) (hi : i ≤ n) : Row w B g i cap (xs.take i) := by
  have hl := h.len
  subst hl
  have ho := Kd.own_of_R h
  refine Kd.R_of_own ?_ (fun _ _ => trivial)
  have hti : (xs.take i).length = i := by rw [List.length_take]; omega
  rw [hti]
  rcases ho.2 with ⟨h0, _⟩ | ⟨g', cap', cur, hv, hb, hh, h1, h2, h3, h4⟩
  · cases h0
  · cases hv
    refine ⟨by simp [encs]; omega, .inr ⟨g, cap, cur, rfl, hb, hh, by omega, h2, h3, ?_⟩⟩
    have : (cur.toList.take (xs.length * 1)).take (i * 1) = (encs Value.string xs).take (i * 1) := by rw [h4]
    rw [List.take_take, Nat.min_eq_left (by omega)] at this
    rw [this]
    simp [encs, List.map_take]
theorem Row.wipe {B g n cap : Nat} : ∀ (m o : Nat) (w : World) (xs : List ByteArray), Row w B g n cap xs → (∃ ys, Row (w.setCells g o (List.replicate m (.string ⟨#[]⟩))) B g n cap ys ∧ ys.take o = xs.take o) ∧ w.grownBy (w.setCells g o (List.replicate m (.string ⟨#[]⟩))) (some g)
  | 0, o, w, xs, h => ⟨⟨xs, h, rfl⟩, ⟨rfl, rfl, rfl, Nat.le_refl _, fun _ _ _ => rfl⟩⟩
  | m + 1, o, w, xs, h => by
    obtain ⟨h1, h2⟩ := h.put o ⟨#[]⟩
    obtain ⟨⟨ys, hy, ht⟩, hg⟩ := Row.wipe m (o + 1) _ _ h1
    refine ⟨⟨ys, hy, ?_⟩, ?_⟩
    · have : (ys.take (o + 1)).take o = ((xs.set o ⟨#[]⟩).take (o + 1)).take o := by rw [ht]
      rw [List.take_take, List.take_take, Nat.min_eq_left (by omega)] at this
      rw [this]
      exact List.take_set_of_le (Nat.le_refl _)
    · exact ⟨hg.os.trans h2.os, hg.tape.trans h2.tape, hg.output.trans h2.output, Nat.le_trans h2.size hg.size, fun k hk hne => (hg.block k (Nat.lt_of_lt_of_le hk h2.size) hne).trans (h2.block k hk hne)⟩
end Go.Proofs.YtopmcoohdhlnaaaDoor.G
/- slices.DeleteFunc at the closure of the program's words, over a row of the call's own: what is left are the words of the code. -/
namespace Go.Proofs.YtopmcoohdhlnaaaDoor.G
open Go.RowKit Go.Lib Go.Proofs.YtopmcoohdhlnaaaDoorW.PrintWords Go.Proofs.YtopmcoohdhlnaaaDoorW.PrintLast Go.Proofs.YtopmcoohdhlnaaaDoorW.PrintMore
set_option linter.unusedVariables false
theorem IsBox.grown {w w1 : World} {gb gr : Nat} {a0 a1 a2 a3 a4 : Int} (h : IsBox w gb a0 a1 a2 a3 a4) (hg : w.grownBy w1 (some gr)) (hne : gb ≠ gr) : IsBox w1 gb a0 a1 a2 a3 a4 :=
  (hg.block gb (Array.getElem?_eq_some_iff.1 h).1 (fun e => hne (Option.some.inj e))).trans h
theorem box_ne {w : World} {gb B gr n cap : Nat} {xs : List ByteArray} {a0 a1 a2 a3 a4 : Int} (h : IsBox w gb a0 a1 a2 a3 a4) (hr : Row w B gr n cap xs) : gb ≠ gr := by
  rintro rfl
  obtain ⟨cells, hc⟩ := own_typed (Kd.own_of_R hr) gb rfl
  unfold IsBox at h
  rw [h] at hc
  injection hc with hc
  injection hc with _ hc
  exact absurd hc (by decide)
/-- How far the row has been rewritten. -/
def Rewr (p : ByteArray → Bool) (l dk : List ByteArray) (i j : Nat) : Prop := dk.take i = (l.take j).filter p ∧ dk.drop j = l.drop j ∧ dk.length = l.length ∧ i < j
theorem Rewr.start {p : ByteArray → Bool} {l : List ByteArray} {k : Nat} (hk : k < l.length) (hp : p (l[k]'hk) = false) (h : ∀ j (hj : j < l.length), j < k → p (l[j]'hj) = true) : Rewr p l l k (k + 1) := by
  refine ⟨?_, rfl, rfl, by omega⟩
  rw [List.take_succ_eq_append_getElem hk, List.filter_append]
  have : (l.take k).filter p = l.take k := by
    rw [List.filter_eq_self]
    intro x hx
    obtain ⟨j, hj, rfl⟩ := List.getElem_of_mem hx
    rw [List.getElem_take]
    exact h j (by rw [List.length_take] at hj; omega) (by rw [List.length_take] at hj; omega)
  rw [this]
  simp [hp]
theorem Rewr.keep {p : ByteArray → Bool} {l dk : List ByteArray} {i j : Nat} (h : Rewr p l dk i j) (hj : j < l.length) (hp : p (l[j]'hj) = true) : Rewr p l (dk.set i (l[j]'hj)) (i + 1) (j + 1) := by
  obtain ⟨h1, h2, h3, h4⟩ := h
  refine ⟨?_, ?_, by simp [h3], by omega⟩
  · rw [List.take_succ_eq_append_getElem (by simp; omega), List.take_set_of_le (Nat.le_refl _), h1, List.take_succ_eq_append_getElem hj, List.filter_append]
    simp [hp]
  · rw [List.drop_set_of_lt (by omega)]
    have := congrArg List.tail h2
    rw [List.tail_drop, List.tail_drop] at this
    exact this
theorem Rewr.skip {p : ByteArray → Bool} {l dk : List ByteArray} {i j : Nat} (h : Rewr p l dk i j) (hj : j < l.length) (hp : p (l[j]'hj) = false) : Rewr p l dk i (j + 1) := by
  obtain ⟨h1, h2, h3, h4⟩ := h
  refine ⟨?_, ?_, h3, by omega⟩
  · rw [h1, List.take_succ_eq_append_getElem hj, List.filter_append]
    simp [hp]
  · have := congrArg List.tail h2
    rw [List.tail_drop, List.tail_drop] at this
    exact this
theorem Rewr.at_ {p : ByteArray → Bool} {l dk : List ByteArray} {i j : Nat} (h : Rewr p l dk i j) (hj : j < l.length) : dk.getD j ByteArray.empty = l[j]'hj := by
  obtain ⟨h1, h2, h3, h4⟩ := h
  have := congrArg (fun l => l[0]?) h2
  simp only [List.getElem?_drop, Nat.add_zero] at this
  rw [List.getD_eq_getElem?_getD, this, List.getElem?_eq_getElem hj]
  rfl
theorem Rewr.done {p : ByteArray → Bool} {l dk : List ByteArray} {i : Nat} (h : Rewr p l dk i l.length) : dk.take i = l.filter p := by
  rw [h.1, List.take_of_length_le (Nat.le_refl _)]
theorem filter_all {p : ByteArray → Bool} {l : List ByteArray} (h : ∀ j (hj : j < l.length), (fun x => !p x) (l[j]'hj) = false) : l.filter p = l := by
  rw [List.filter_eq_self]
  intro x hx
  obtain ⟨j, hj, rfl⟩ := List.getElem_of_mem hx
  simpa using h j hj
def DelPost (p : ByteArray → Bool) (l : List ByteArray) (B : Nat) (w : World) (e : Ending) (w' : World) : Prop := ∃ v', e = .returned v' ∧ Kd.R Kd.string 9 w' B (fun _ => True) v' (l.filter p) ∧ Below B w w'
set_option maxHeartbeats 4000000 in
set_option maxRecDepth 100000 in
theorem delete_calls (gb : Nat) (a0 a1 a2 a3 a4 : Int) (B gr cap : Nat) (l : List ByteArray) (w : World) (hr : Row w B gr l.length cap l) (hl : l.length ≤ 1000000000) (hB : B ≤ w.heap.size) (hbx : IsBox w gb a0 a1 a2 a3 a4) (hc : okCode a0 a1 a2 a3 a4) :
    Calls Tryd.prog 61 #[.slice (some ⟨gr, 0, none⟩) l.length cap, .func (.func 62) #[] #[.pointer (some ⟨gb, 0, none⟩)]] w (DelPost (inB a0 a1 a2 a3 a4) l B w) := by
  have hne := box_ne hbx hr
  have hcap : l.length ≤ cap ∧ cap ≤ maxLen := by
    rcases (Kd.own_of_R hr).2 with ⟨h0, _⟩ | ⟨_, _, _, hv, _, _, h1, h2, _⟩
    · cases h0
    · cases hv; exact ⟨h1, h2⟩
  obtain ⟨hcap1, hcap2⟩ := hcap
  unfold maxLen at hcap2
  have HR := Lib.hid hr; clear hr
  have HC := Lib.hid hc; clear hc
  have HX := Lib.hid hbx; clear hbx
  have hu40 := Tryd.underlying40
  go_enter Tryd.func61, Tryd.ntmps61
  go_wp2_with fail
  refine (index_not gb a0 a1 a2 a3 a4 _ cap l _ (Kd.R_reads' HR.out).2.2 hl HX.out HC.out).mono ?_
  rintro e w1 (⟨k, hk, rfl, hp, hpre, hbw⟩ | ⟨rfl, hall, hbw⟩)
  · have hb1 : Below B w w1 := hbw.mono hB
    have HR1 := Lib.hid (HR.out.below hbw)
    have HX1 := Lib.hid (HX.out.below hbw)
    have HW := Lib.hid (Rewr.start (p := inB a0 a1 a2 a3 a4) hk (by simpa using hp) (fun j hj h => by simpa using hpre j hj h))
    clear hbw hp hpre HR HX
    have hkm : ((k : Int) == -1) = false := beq_eq_false_iff_ne.2 (by omega)
    go_wp2
    go_loopw [5, 6] (fun s5 s6 wr => ∃ (i j : Nat) (dk : List ByteArray), s5 = .int .i64 i ∧ s6 = .int .i64 j ∧ j ≤ l.length ∧ Hid (Rewr (inB a0 a1 a2 a3 a4) l dk i j) ∧ Hid (Row wr B gr l.length cap dk) ∧ Hid (IsBox wr gb a0 a1 a2 a3 a4) ∧ Below B w wr) (fun _ s6 _ => l.length - (Go.RowKit.intOf s6).toNat)
    case atStart => exact ⟨k, k + 1, l, rfl, by go_num, by omega, HW, HR1, HX1, hb1⟩
    case round =>
      obtain ⟨i, j, dk, rfl, rfl, hj, HW, HRr, HXr, hb⟩ := hrel
      clear HR1 HX1 hb1
      have hij := HW.out.2.2.2
      have hsz := hb.size
      by_cases hlt : j < l.length
      · obtain ⟨cj, fj⟩ := HRr.out.cell j hlt
        rw [HW.out.at_ hlt] at cj
        obtain ⟨x, hxx⟩ : ∃ x, l[j]'hlt = x := ⟨_, rfl⟩
        rw [hxx] at cj
        have HXX := Lib.hid hxx; clear hxx
        have hdec : decide ((j : Int) < (l.length : Int)) = true := by simp; omega
        go_wp2_with fail
        refine (not_calls gb a0 a1 a2 a3 a4 x _ HXr.out HC.out).mono ?_
        rintro e w2 ⟨rfl, hbw⟩
        have hb2 : Below B w w2 := hb.trans (hbw.mono (by omega))
        have HR2 := Lib.hid (HRr.out.below hbw)
        have HX2 := Lib.hid (HXr.out.below hbw)
        clear hb hbw cj fj HRr HXr
        obtain ⟨b, hbb⟩ : ∃ b, inB a0 a1 a2 a3 a4 x = b := ⟨_, rfl⟩
        rw [hbb]
        have HBB := Lib.hid hbb; clear hbb
        cases b
        · have HW2 := Lib.hid (HW.out.skip hlt (by rw [HXX.out]; exact HBB.out))
          go_wp2
          go_roundw
          case rel => exact ⟨i, j + 1, dk, rfl, by go_num, by omega, HW2, HR2, HX2, hb2⟩
          case measure => simp [Go.RowKit.intOf]; omega
        · have HW2 : Hid (Rewr (inB a0 a1 a2 a3 a4) l (dk.set i x) (i + 1) (j + 1)) := Lib.hid (by have := HW.out.keep hlt (by rw [HXX.out]; exact HBB.out); rwa [HXX.out] at this)
          obtain ⟨ci, fi⟩ := HR2.out.cell i (by omega)
          have HP := Lib.hid (HR2.out.put i x)
          have hil : i < l.length := by omega
          go_wp2
          go_roundw
          case rel => exact ⟨i + 1, j + 1, dk.set i x, by go_num, by go_num, by omega, HW2, Lib.hid HP.out.1, Lib.hid (HX2.out.grown HP.out.2 hne), hb2.grown HP.out.2 (by have := hb2.size; omega) (fun q hq => by cases hq; exact HR2.out.base)⟩
          case measure => simp [Go.RowKit.intOf]; omega
      · obtain rfl : j = l.length := by omega
        have hclr := fun ty => Lib.run_clear_slice (P := Tryd.prog) wr 40 9 ty (.string ⟨#[]⟩) Tryd.underlying40 Tryd.zeroValue9 rfl rfl gr i (l.length - i) (cap - i) (by omega)
          (fun t ht => by rw [(HRr.out.cell (i + t) (by omega)).1]; rfl) (fun t ht => (HRr.out.cell (i + t) (by omega)).2)
        have HCL := Lib.hid hclr
        have hil : i < l.length := by omega
        go_wp2
        go_ret
        obtain ⟨⟨ys, hy, ht⟩, hg⟩ := Row.wipe (l.length - i) i wr dk HRr.out
        have hfin := hy.prefix_ i (by omega)
        rw [ht, HW.out.done] at hfin
        exact ⟨_, rfl, hfin, hb.grown hg (by omega) (fun q hq => by cases hq; exact HRr.out.base)⟩
  · have hb1 : Below B w w1 := hbw.mono hB
    have HR1 := Lib.hid (HR.out.below hbw)
    have HF := Lib.hid (filter_all (p := inB a0 a1 a2 a3 a4) hall)
    clear hbw hall HR HX
    go_wp2
    go_ret
    exact ⟨_, rfl, by rw [HF.out]; exact HR1.out, hb1⟩
end Go.Proofs.YtopmcoohdhlnaaaDoor.G
