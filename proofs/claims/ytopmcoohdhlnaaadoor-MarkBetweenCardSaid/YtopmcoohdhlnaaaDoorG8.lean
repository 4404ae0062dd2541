/- Which words are of a code, as the program's own test says it; the first word of a list that is one of a code: slices.IndexFunc at the code's method value, and the program's only over it. -/
import Derived.Lib.Hide
import Derived.Outline
import Derived.Shelf.Unicode.DecodeSlow
import Derived.Test.YtopmcoohdhlnaaaDoorM1
namespace Go.Proofs.YtopmcoohdhlnaaaDoor.G
open Go.RowKit Go.Lib Go.Proofs.YtopmcoohdhlnaaaDoorW.PrintWords Go.Proofs.YtopmcoohdhlnaaaDoorW.PrintLast Go.Proofs.YtopmcoohdhlnaaaDoorW.PrintMore
set_option linter.unusedVariables false

/-- Is a word one of a code? -/
def inB (kind n q a b : Int) (x : ByteArray) : Bool := if kind = 0 then M.inL n.toNat a.toNat x else M.inD n.toNat q.toNat a.toNat b.toNat x
/-- The numbers of a code that the program makes. -/
def okCode (kind n q a b : Int) : Prop := 0 ≤ n ∧ n ≤ 1000 ∧ 0 ≤ a ∧ (kind = 0 ∨ kind = 1 ∧ 0 < n ∧ 0 < q ∧ 0 ≤ b)
instance (kind n q a b : Int) : Decidable (okCode kind n q a b) := by unfold okCode; exact inferInstance
theorem in_evB (kind n q a b : Int) (x : ByteArray) (h : okCode kind n q a b) : Pa.mark_code_in.f 3000 kind n q a b x = some (inB kind n q a b x) := by
  obtain ⟨hn0, hn, ha, hk⟩ := h
  obtain ⟨n, rfl⟩ := Int.eq_ofNat_of_zero_le hn0
  obtain ⟨a, rfl⟩ := Int.eq_ofNat_of_zero_le ha
  have hn' : n ≤ 1000 := by omega
  unfold inB
  rcases hk with rfl | ⟨rfl, h1, h2, h3⟩
  · rw [if_pos rfl, Int.toNat_natCast, Int.toNat_natCast]
    exact M.in_ev n a x q b (by omega) 3000 (by omega)
  · obtain ⟨q, rfl⟩ := Int.eq_ofNat_of_zero_le (Int.le_of_lt h2)
    obtain ⟨b, rfl⟩ := Int.eq_ofNat_of_zero_le h3
    rw [if_neg (by decide), Int.toNat_natCast, Int.toNat_natCast, Int.toNat_natCast, Int.toNat_natCast]
    exact M.ind_ev n q a b x (by omega) (by omega) (by omega) 3000 (by omega)
theorem in_calls (a0 a1 a2 a3 a4 : Int) (x : ByteArray) (w : World) (h : okCode a0 a1 a2 a3 a4) :
    Calls Tryd.prog 55 #[.agg #[.int .i64 a0, .int .i64 a1, .int .i64 a2, .int .i64 a3, .int .i64 a4], .string x] w fun e w' => e = .returned (.bool (inB a0 a1 a2 a3 a4 x)) ∧ Below w.heap.size w w' :=
  Pa.mark_code_in.calls 3000 a0 a1 a2 a3 a4 x _ w (in_evB a0 a1 a2 a3 a4 x h)

theorem rd_nat8 (l : List ByteArray) (k : Nat) (h : k < l.length) : rdOf ByteArray.empty l (k : Int) = l[k]'h := by
  unfold rdOf
  simp [h]
/-- Where the first word of which a test holds lies, or -1. -/
def IdxPost (p : ByteArray → Bool) (l : List ByteArray) (w : World) (e : Ending) (w' : World) : Prop :=
  (∃ k : Nat, ∃ h : k < l.length, e = .returned (.int .i64 k) ∧ p (l[k]'h) = true ∧ (∀ j (hj : j < l.length), j < k → p (l[j]'hj) = false) ∧ Below w.heap.size w w') ∨ (e = .returned (.int .i64 (-1)) ∧ (∀ j (hj : j < l.length), p (l[j]'hj) = false) ∧ Below w.heap.size w w')
theorem upto_step {p : ByteArray → Bool} {l : List ByteArray} {k : Nat} (h : ∀ j (hj : j < l.length), j < k → p (l[j]'hj) = false) (hk : k < l.length) (hp : p (l[k]'hk) = false) : ∀ j (hj : j < l.length), j < k + 1 → p (l[j]'hj) = false := by
  intro j hj hjk
  by_cases e : j = k
  · subst e; exact hp
  · exact h j hj (by omega)
set_option maxHeartbeats 2000000 in
set_option maxRecDepth 100000 in
theorem index_in (a0 a1 a2 a3 a4 : Int) (A : Option Addr) (c : Nat) (l : List ByteArray) (w : World) (hr : Kd.C Kd.string w A l.length l) (hl : l.length ≤ 1000000000) (hc : okCode a0 a1 a2 a3 a4) :
    Calls Tryd.prog 54 #[.slice A l.length c, .func (.func 55) #[.agg #[.int .i64 a0, .int .i64 a1, .int .i64 a2, .int .i64 a3, .int .i64 a4]] #[]] w (IdxPost (inB a0 a1 a2 a3 a4) l w) := by
  have HR := Lib.hid hr; clear hr
  have HC := Lib.hid hc; clear hc
  go_enter Tryd.func54, Tryd.ntmps54
  go_wp2
  go_loopw [8] (fun i wr => ∃ k : Nat, k ≤ l.length ∧ i = .int .i64 k ∧ Hid (∀ j (hj : j < l.length), j < k → inB a0 a1 a2 a3 a4 (l[j]'hj) = false) ∧ Below w.heap.size w wr) (fun i _ => l.length - (Go.RowKit.intOf i).toNat)
  case atStart => exact ⟨0, Nat.zero_le _, rfl, Lib.hid (fun j hj h => absurd h (by omega)), Below.refl _ _⟩
  case round =>
    obtain ⟨k, hk, rfl, HF, hb⟩ := hrel
    by_cases hlt : k < l.length
    · obtain ⟨ad, e2, hx⟩ := Kd.at_string (Kd.C_below HR.out hb) (k : Int) (by omega) (by omega)
      cases e2
      rw [rd_nat8 l k hlt, Int.toNat_natCast] at hx
      obtain ⟨x, hxx⟩ : ∃ x, l[k]'hlt = x := ⟨_, rfl⟩
      rw [hxx] at hx
      have HX := Lib.hid hxx; clear hxx
      have hdec : decide ((k : Int) < (l.length : Int)) = true := by simp; omega
      go_wp2_with fail
      refine (in_calls a0 a1 a2 a3 a4 x _ HC.out).mono ?_
      rintro e w1 ⟨rfl, hbw⟩
      have hb3 : Below w.heap.size w w1 := hb.trans (hbw.mono hb.size)
      clear hb hbw hx
      obtain ⟨b, hbb⟩ : ∃ b, inB a0 a1 a2 a3 a4 x = b := ⟨_, rfl⟩
      rw [hbb]
      have HBB := Lib.hid hbb; clear hbb
      cases b
      · go_wp2
        go_roundw
        case rel => exact ⟨k + 1, by omega, by go_num, Lib.hid (upto_step HF.out hlt (by rw [HX.out]; exact HBB.out)), hb3⟩
        case measure => simp [Go.RowKit.intOf]; omega
      · go_wp2
        go_ret
        exact .inl ⟨k, hlt, rfl, by rw [HX.out]; exact HBB.out, HF.out, hb3⟩
    · obtain rfl : k = l.length := by omega
      go_wp2
      go_ret
      exact .inr ⟨rfl, fun j hj => HF.out j hj hj, hb⟩

/-! ### mark_code_only: function 40 -/
def mark_code_only.f (a0_0 a0_1 a0_2 a0_3 a0_4 : Int) (l1 : List ByteArray) : Option (ByteArray × Int) :=
  if l1.length ≤ 1000000000 ∧ okCode a0_0 a0_1 a0_2 a0_3 a0_4 then
    some (match l1.find? (inB a0_0 a0_1 a0_2 a0_3 a0_4) with | some x => (x, 0) | none => (⟨#[]⟩, 5))
  else none
theorem find_none {p : ByteArray → Bool} {l : List ByteArray} (h : ∀ j (hj : j < l.length), p (l[j]'hj) = false) : l.find? p = none := by
  rw [List.find?_eq_none]
  intro x hx
  obtain ⟨j, hj, rfl⟩ := List.getElem_of_mem hx
  simp [h j hj]
theorem find_some {p : ByteArray → Bool} {l : List ByteArray} {k : Nat} (hk : k < l.length) (hp : p (l[k]'hk) = true) (h : ∀ j (hj : j < l.length), j < k → p (l[j]'hj) = false) : l.find? p = some (l[k]'hk) := by
  rw [List.find?_eq_some_iff_getElem]
  exact ⟨hp, k, hk, rfl, fun j hj => by simp [h j (by omega) hj]⟩
set_option maxHeartbeats 2000000 in
set_option maxRecDepth 100000 in
theorem mark_code_only.calls (a0_0 a0_1 a0_2 a0_3 a0_4 : Int) (A1 : Option Addr) (c1 : Nat) (l1 : List ByteArray) (r1 : ByteArray) (r2 : Int) (w : World) (hr1 : Kd.C Kd.string w A1 l1.length l1) (hc1 : l1.length ≤ c1) (h : mark_code_only.f a0_0 a0_1 a0_2 a0_3 a0_4 l1 = some (r1, r2)) :
    Calls Tryd.prog 40 #[.agg #[.int .i64 a0_0, .int .i64 a0_1, .int .i64 a0_2, .int .i64 a0_3, .int .i64 a0_4], .slice A1 l1.length c1] w fun e w' => e = .returned (.tuple #[.string r1, .int .i64 r2]) ∧ Below w.heap.size w w' := by
  unfold mark_code_only.f at h
  split at h
  case isFalse => cases h
  case isTrue hln =>
  obtain ⟨hln, hok⟩ := hln
  have HH := Lib.hid (Option.some.inj h); clear h
  have HR := Lib.hid hr1; clear hr1
  have HOK := Lib.hid hok; clear hok
  have hb0 : Below w.heap.size w (w.alloc (.cells #[.int .i64 a0_0, .int .i64 a0_1, .int .i64 a0_2, .int .i64 a0_3, .int .i64 a0_4] 68)) := (Below.refl _ _).alloc (Nat.le_refl _) _
  have HB0 := Lib.hid hb0; clear hb0
  go_enter Tryd.func40, Tryd.ntmps40
  go_wp2_with fail
  refine (index_in a0_0 a0_1 a0_2 a0_3 a0_4 A1 c1 l1 _ (Kd.C_below HR.out HB0.out) hln HOK.out).mono ?_
  rintro e w1 (⟨k, hk, rfl, hp, hpre, hbw⟩ | ⟨rfl, hall, hbw⟩)
  · have hb1 : Below w.heap.size w w1 := HB0.out.trans (hbw.mono HB0.out.size)
    have HF := Lib.hid (find_some hk hp hpre)
    clear hbw hp hpre
    obtain ⟨ad, e2, hx⟩ := Kd.at_string (Kd.C_below HR.out hb1) (k : Int) (by omega) (by omega)
    cases e2
    rw [rd_nat8 l1 k hk, Int.toNat_natCast] at hx
    have HF2 : Hid ((l1[k]'hk, (0 : Int)) = (r1, r2)) := Lib.hid (by have := HH.out; rw [HF.out] at this; exact this)
    clear HF HH
    obtain ⟨x, hxx⟩ : ∃ x, l1[k]'hk = x := ⟨_, rfl⟩
    rw [hxx] at hx HF2
    clear hxx
    go_wp2
    go_ret2
    have h2 := HF2.out
    cases h2
    exact ⟨rfl, hb1⟩
  · have hb1 : Below w.heap.size w w1 := HB0.out.trans (hbw.mono HB0.out.size)
    have HF := Lib.hid (find_none hall)
    clear hbw hall
    go_wp2
    go_ret2
    have h2 := HH.out
    rw [HF.out] at h2
    cases h2
    exact ⟨rfl, hb1⟩
end Go.Proofs.YtopmcoohdhlnaaaDoor.G
