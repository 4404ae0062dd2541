/- Printed by a program of this session (print2.py). -/
import Derived.Test.YthbhgnnfpfblhaaDoorPb12
import Derived.Test.YthbhgnnfpfblhaaDoorQa5
namespace Go.Proofs.YthbhgnnfpfblhaaDoor.Qa
open Go.RowKit Go.Proofs.YthbhgnnfpfblhaaDoorW.PrintWords Go.Proofs.YthbhgnnfpfblhaaDoorW.PrintLast Go.Proofs.YthbhgnnfpfblhaaDoorW.PrintMore
attribute [local go_sem] max2_int min2_int max_two min_two max_three min_three max_four min_four   -- for this text's walks alone
set_option linter.unusedVariables false
set_option linter.unusedSimpArgs false

/-! ### pritcheltop_TopSigns: function 3 -/
mutual
def pritcheltop_TopSigns.j0 : Nat → Int → Int → List ByteArray → Bool → Option (Bool)
 | 0, _, _, _, _ => none
 | k + 1, x1, x2, x7, x41 => if x41 = true then (some false) else (if (x7.length : Int) = 0 then (none) else (if 0 ≤ (Int.tmod (wrap64 (x1)) (x7.length : Int)) then (if (Int.tmod (wrap64 (x1)) (x7.length : Int)) < (x7.length : Int) then (if 0 ≤ (Int.tmod (wrap64 (x2)) (x7.length : Int)) then (if (Int.tmod (wrap64 (x2)) (x7.length : Int)) < (x7.length : Int) then (pritcheltop_TopSigns.l0 k (rdOf ByteArray.empty x7 (Int.tmod (wrap64 (x1)) (x7.length : Int))) (rdOf ByteArray.empty x7 (Int.tmod (wrap64 (x2)) (x7.length : Int))) (⟨#[]⟩ : ByteArray) (⟨#[]⟩ : ByteArray) 0 0 0) else (none)) else (none)) else (none)) else (none)))
def pritcheltop_TopSigns.l0 : Nat → ByteArray → ByteArray → ByteArray → ByteArray → Int → Int → Int → Option (Bool)
 | 0, _, _, _, _, _, _, _ => none
 | k + 1, x9, x10, x11, x12, x13, x14, x15 => if x15 < (x9.size : Int) then (pritcheltop_TopSigns.j2 k x9 x10 x11 x12 x13 x14 x15 (decide (x15 < (x10.size : Int)))) else (pritcheltop_TopSigns.j2 k x9 x10 x11 x12 x13 x14 x15 false)
def pritcheltop_TopSigns.j2 : Nat → ByteArray → ByteArray → ByteArray → ByteArray → Int → Int → Int → Bool → Option (Bool)
 | 0, _, _, _, _, _, _, _, _ => none
 | k + 1, x9, x10, x11, x12, x13, x14, x15, x67 => if x67 = true then (if 0 ≤ x15 then (if x15 < (x9.size : Int) then (if (bt x9 x15) = 45 then (pritcheltop_TopSigns.j3 k x9 x10 x11 x12 (wrap64 (x13 + 1)) x14 x15 (⟨#[49]⟩ : ByteArray) (⟨#[48]⟩ : ByteArray)) else (pritcheltop_TopSigns.j3 k x9 x10 x11 x12 x13 x14 x15 (⟨#[48]⟩ : ByteArray) (⟨#[48]⟩ : ByteArray))) else (none)) else (none)) else ((gait_Around.f k x9).bind fun bt147 => ((Pb.mark_Distance.f k x11 x12).bind fun bt151 => (if bt147.2 = 0 then (if bt151.2 = 0 then (pritcheltop_TopSigns.j4 k x9 x10 x13 x14 bt147.1 bt151.1 ((bt147.1.length : Int) != (x9.size : Int))) else (pritcheltop_TopSigns.j4 k x9 x10 x13 x14 bt147.1 bt151.1 true)) else (pritcheltop_TopSigns.j4 k x9 x10 x13 x14 bt147.1 bt151.1 true))))
def pritcheltop_TopSigns.j3 : Nat → ByteArray → ByteArray → ByteArray → ByteArray → Int → Int → Int → ByteArray → ByteArray → Option (Bool)
 | 0, _, _, _, _, _, _, _, _, _ => none
 | k + 1, x9, x10, x11, x12, x13, x14, x15, x16, x17 => if 0 ≤ x15 then (if x15 < (x10.size : Int) then (if (bt x10 x15) = 45 then (if x15 < (x9.size : Int) then (if (bt x9 x15) = (bt x10 x15) then (if x11.size + x16.size ≤ 9223372036854775807 then (if x12.size + 1 ≤ 9223372036854775807 then (pritcheltop_TopSigns.l0 k x9 x10 (x11 ++ x16) (x12 ++ (⟨#[49]⟩ : ByteArray)) x13 x14 (wrap64 (x15 + 1))) else (none)) else (none)) else (if x11.size + x16.size ≤ 9223372036854775807 then (if x12.size + 1 ≤ 9223372036854775807 then (pritcheltop_TopSigns.l0 k x9 x10 (x11 ++ x16) (x12 ++ (⟨#[49]⟩ : ByteArray)) x13 (wrap64 (x14 + 1)) (wrap64 (x15 + 1))) else (none)) else (none))) else (none)) else (if x15 < (x9.size : Int) then (if (bt x9 x15) = (bt x10 x15) then (if x11.size + x16.size ≤ 9223372036854775807 then (if x12.size + x17.size ≤ 9223372036854775807 then (pritcheltop_TopSigns.l0 k x9 x10 (x11 ++ x16) (x12 ++ x17) x13 x14 (wrap64 (x15 + 1))) else (none)) else (none)) else (if x11.size + x16.size ≤ 9223372036854775807 then (if x12.size + x17.size ≤ 9223372036854775807 then (pritcheltop_TopSigns.l0 k x9 x10 (x11 ++ x16) (x12 ++ x17) x13 (wrap64 (x14 + 1)) (wrap64 (x15 + 1))) else (none)) else (none))) else (none))) else (none)) else (none)
def pritcheltop_TopSigns.j4 : Nat → ByteArray → ByteArray → Int → Int → List Int → Int → Bool → Option (Bool)
 | 0, _, _, _, _, _, _, _ => none
 | k + 1, x9, x10, x13, x14, x18, x20, x118 => if x118 = true then (some false) else (pritcheltop_TopSigns.l1 k x9 x10 x13 x14 x18 x20 0 0)
def pritcheltop_TopSigns.l1 : Nat → ByteArray → ByteArray → Int → Int → List Int → Int → Int → Int → Option (Bool)
 | 0, _, _, _, _, _, _, _, _ => none
 | k + 1, x9, x10, x13, x14, x18, x20, x22, x23 => if x23 < (x18.length : Int) then (if 0 ≤ x23 then (pritcheltop_TopSigns.l1 k x9 x10 x13 x14 x18 x20 (wrap64 (x22 + (rd x18 x23))) (wrap64 (x23 + 1))) else (none)) else (if x22 = (wrap64 ((wrap64 ((x9.size : Int) - (wrap64 (2 * x13)))) * (wrap64 ((x9.size : Int) - (wrap64 (2 * x13)))))) then (if ((x9.toList == x10.toList) == (x20 == 0)) = true then (if x20 ≤ (wrap64 (2 * x14)) then (if x9.toList = x10.toList then (some true) else (some ((wrap64 (2 * x14)) == (x9.size : Int)))) else (some false)) else (some false)) else (some false))
end
def pritcheltop_TopSigns.f (k : Nat) (a0 : Int) (a1 : Int) (a2 : Int) : Option (Bool) := (gait_Sylvester.f k (Int.tmod (wrap64 (a0)) 5)).bind fun bt141 => (if bt141.2 = 0 then (if 0 ≤ (Int.tmod (wrap64 (a0)) 5) then (pritcheltop_TopSigns.j0 k a1 a2 bt141.1 ((bt141.1.length : Int) != (shl .i64 1 (Int.tmod (wrap64 (a0)) 5)))) else (none)) else (pritcheltop_TopSigns.j0 k a1 a2 bt141.1 true))
set_option maxHeartbeats 8000000 in
set_option maxRecDepth 100000 in
theorem pritcheltop_TopSigns.calls (k : Nat) (a0 : Int) (a1 : Int) (a2 : Int) (r : Bool) (w : World) (hT : Lib.Utf8Tabs 0 1 w) (h : pritcheltop_TopSigns.f k a0 a1 a2 = some r) :
  Calls Tryd.prog 3 #[.int .u8 a0, .int .u8 a1, .int .u8 a2] w fun e w' => e = .returned (.bool r) ∧ Below w.heap.size w w' := by
 have HB := Aside0.mk (Below.refl w.heap.size w)
 have HT := Aside0.mk hT
 clear hT
 have H : ((gait_Sylvester.f k (Int.tmod (wrap64 (a0)) 5)).bind fun bt141 => (if bt141.2 = 0 then (if 0 ≤ (Int.tmod (wrap64 (a0)) 5) then (pritcheltop_TopSigns.j0 k a1 a2 bt141.1 ((bt141.1.length : Int) != (shl .i64 1 (Int.tmod (wrap64 (a0)) 5)))) else (none)) else (pritcheltop_TopSigns.j0 k a1 a2 bt141.1 true))) = some r := h
 clear h
 replace H := Option.bind_eq_some_iff.mp H
 obtain ⟨⟨t141, t142⟩, A40, H⟩ := H
 replace H : (if t142 = 0 then (if 0 ≤ (Int.tmod (wrap64 (a0)) 5) then (pritcheltop_TopSigns.j0 k a1 a2 t141 ((t141.length : Int) != (shl .i64 1 (Int.tmod (wrap64 (a0)) 5)))) else (none)) else (pritcheltop_TopSigns.j0 k a1 a2 t141 true)) = some r := H
 have A4 := Aside0.mk A40
 clear A40
 have HC5 := Aside0.mk H
 clear H
 go_enter Tryd.func3, Tryd.ntmps3
 go_upto_region 2 with (first | (go_at_call 4; (with_reducible refine (gait_Sylvester.calls k (Int.tmod (wrap64 (a0)) 5) t141 t142 _ A4.out).mono ?_); rintro e w6 ⟨v143, rfl, ho0, hb⟩; have n0_ := Aside0.mk (Kd.R_lower ho0 (below_size (by repeat (first | (with_reducible first | exact HB.out | apply below_alloc | apply pw_below_drewN | apply below_drew1) | exact HB.out)))); have n1_ := Aside0.mk (below_step (by repeat (first | (with_reducible first | exact HB.out | apply below_alloc | apply pw_below_drewN | apply below_drew1) | exact HB.out)) hb); clear HB; have HO144 := n0_; have HB := n1_; clear n0_ n1_; (try clear hb); (try clear hb2); (try clear hk); (try clear hi); (try clear ho0)))
 repeat (go_quiet (first | (go_at_call 4; (with_reducible refine (gait_Sylvester.calls k (Int.tmod (wrap64 (a0)) 5) t141 t142 _ A4.out).mono ?_); rintro e w6 ⟨v143, rfl, ho0, hb⟩; have n0_ := Aside0.mk (Kd.R_lower ho0 (below_size (by repeat (first | (with_reducible first | exact HB.out | apply below_alloc | apply pw_below_drewN | apply below_drew1) | exact HB.out)))); have n1_ := Aside0.mk (below_step (by repeat (first | (with_reducible first | exact HB.out | apply below_alloc | apply pw_below_drewN | apply below_drew1) | exact HB.out)) hb); clear HB; have HO144 := n0_; have HB := n1_; clear n0_ n1_; (try clear hb); (try clear hb2); (try clear hk); (try clear hi); (try clear ho0))); go_upto_region 2 with (first | (go_at_call 4; (with_reducible refine (gait_Sylvester.calls k (Int.tmod (wrap64 (a0)) 5) t141 t142 _ A4.out).mono ?_); rintro e w6 ⟨v143, rfl, ho0, hb⟩; have n0_ := Aside0.mk (Kd.R_lower ho0 (below_size (by repeat (first | (with_reducible first | exact HB.out | apply below_alloc | apply pw_below_drewN | apply below_drew1) | exact HB.out)))); have n1_ := Aside0.mk (below_step (by repeat (first | (with_reducible first | exact HB.out | apply below_alloc | apply pw_below_drewN | apply below_drew1) | exact HB.out)) hb); clear HB; have HO144 := n0_; have HB := n1_; clear n0_ n1_; (try clear hb); (try clear hb2); (try clear hk); (try clear hi); (try clear ho0))))
 (try simp only [Act.put, List.setIfInBounds_toArray, List.set_cons_zero, List.set_cons_succ])
 go_cut [41] (fun v41 wc => ∃ (kq : Nat) (x41_4 : Bool), v41 = .bool x41_4 ∧ Aside0 (pritcheltop_TopSigns.j0 kq a1 a2 t141 x41_4 = some r) ∧ Aside0 (kq ≤ k) ∧ Aside0 (Kd.R Kd.string 9 wc w.heap.size (fun _ => True) v143 t141) ∧ Aside0 (Below w.heap.size w wc))
 case first =>
  have H := HC5.out
  clear HC5
  by_cases c7 : t142 = 0
  ·rw [if_pos c7] at H
   have c7b0 : (t142 == 0) = true := beq_iff_eq.mpr c7
   have c7b1 : (t142 != 0) = false := bne_eq_false_iff_eq.mpr c7
   clear c7
   (first | rw [c7b0] | (simp only [i64_w, i32_w]; rw [c7b0]) | skip)
   obtain ⟨ji8, hji8⟩ : ∃ j_ : Int, (Int.tmod (wrap64 (a0)) 5) = j_ := ⟨_, rfl⟩
   replace H : (if 0 ≤ (ji8) then (pritcheltop_TopSigns.j0 k a1 a2 t141 ((t141.length : Int) != (shl .i64 1 (ji8)))) else (none)) = some r := by first | (rw [hji8] at H; exact H) | (simp only [hji8] at H ⊢; exact H)
   by_cases c9 : 0 ≤ (ji8)
   ·rw [if_pos c9] at H
    have c9b0 := eq_true c9
    have c9b1 : decide (0 ≤ (ji8)) = true := decide_eq_true c9
    clear c9
    obtain ⟨ji10, hji10⟩ : ∃ j_ : Int, (shl .i64 1 (ji8)) = j_ := ⟨_, rfl⟩
    replace H : (pritcheltop_TopSigns.j0 k a1 a2 t141 ((t141.length : Int) != (ji10))) = some r := by first | (rw [hji10] at H; exact H) | (simp only [hji10] at H ⊢; exact H)
    have hji10_ : (IntKind.i64.wrap (1 * 2 ^ min (ji8).toNat 64)) = ji10 := hji10
    have hji10z : (ji8) ≤ 64 → (IntKind.i64.wrap (1 * 2 ^ (ji8).toNat)) = ji10 := shl_small hji10
    have hji10u : (IntKind.i64.wrap (2 ^ min (ji8).toNat 64)) = ji10 := by have h_ := hji10_; rw [Int.one_mul] at h_; exact h_
    have hji10v : (ji8) ≤ 64 → (IntKind.i64.wrap (2 ^ (ji8).toNat)) = ji10 := fun hle_ => by have h_ := hji10z hle_; rw [Int.one_mul] at h_; exact h_
    have hji10y : (wrap64 (1 * 2 ^ min (ji8).toNat 64)) = ji10 := (i64_w _).symm.trans hji10_
    have hji10x : (ji8) ≤ 64 → (wrap64 (1 * 2 ^ (ji8).toNat)) = ji10 := fun h_ => (i64_w _).symm.trans (hji10z h_)
    have H' := Aside0.mk H
    clear H
    obtain ⟨Ao11, co11, eo11⟩ := Kd.R_slice HO144.out
    subst eo11
    go_wp2
    repeat (go_quiet (fail); try go_wp2)
    go_meet
    case rel => exact ⟨_, (((t141.length : Int) != (ji10))), (by first | rfl | (simp; done) | (simp only [← hji10] <;> (first | rfl | simp)) | (simp [*]; done)), H', ⟨by first | omega | exact Nat.le_refl _⟩, ⟨by (with_reducible repeat (first | apply Kd.R_alloc | apply Kd.R_drewN | apply Kd.R_drew)); exact HO144.out⟩, ⟨by repeat (first | (with_reducible first | exact HB.out | apply below_alloc | apply pw_below_drewN | apply below_drew1) | exact HB.out)⟩⟩
   ·rw [if_neg c9] at H
    exact absurd H (by simp)
  ·rw [if_neg c7] at H
   have c7b0 : (t142 == 0) = false := beq_eq_false_iff_ne.mpr c7
   have c7b1 : (t142 != 0) = true := bne_iff_ne.mpr c7
   (first | rw [c7b0] | (simp only [i64_w, i32_w]; rw [c7b0]) | skip)
   have H' := Aside0.mk H
   clear H
   go_wp2
   repeat (go_quiet (fail); try go_wp2)
   go_meet
   case rel => exact ⟨_, (true), (by first | rfl | (simp; done) | (simp [*]; done)), H', ⟨by first | omega | exact Nat.le_refl _⟩, ⟨by (with_reducible repeat (first | apply Kd.R_alloc | apply Kd.R_drewN | apply Kd.R_drew)); exact HO144.out⟩, ⟨by repeat (first | (with_reducible first | exact HB.out | apply below_alloc | apply pw_below_drewN | apply below_drew1) | exact HB.out)⟩⟩
 case rest =>
  clear HC5
  try clear p2
  try clear c3
  try clear p6
  try clear c7
  try clear c7b0
  try clear c7b1
  try clear c9
  try clear c9b0
  try clear c9b1
  obtain ⟨kq, x41_4, rfl, HA, HJ4, HO_7, HB⟩ := hcut
  cases kq with
  | zero => exact absurd HA.out (by simp [pritcheltop_TopSigns.j0])
  | succ kj4 =>
   have H := HA.out
   clear HA
   simp only [pritcheltop_TopSigns.j0] at H
   by_cases c12 : x41_4 = true
   ·subst c12
    have H1 : (some false) = some r := by rw [if_pos rfl] at H; exact H
    clear H
    have H := H1
    clear H1
    obtain rfl := Option.some.inj H
    go_wp2
    repeat (go_quiet (fail); try go_wp2)
    go_ret
    exact ⟨by first | rfl | (simp [errW_none, errW_some] <;> rfl) | (simp [*, errW_none, errW_some] <;> rfl), by repeat (first | (with_reducible first | exact HB.out | apply below_alloc | apply pw_below_drewN | apply below_drew1) | exact HB.out)⟩
   ·replace c12 := Bool.eq_false_iff.mpr c12
    subst c12
    have H1 : (if (t141.length : Int) = 0 then (none) else (if 0 ≤ (Int.tmod (wrap64 (a1)) (t141.length : Int)) then (if (Int.tmod (wrap64 (a1)) (t141.length : Int)) < (t141.length : Int) then (if 0 ≤ (Int.tmod (wrap64 (a2)) (t141.length : Int)) then (if (Int.tmod (wrap64 (a2)) (t141.length : Int)) < (t141.length : Int) then (pritcheltop_TopSigns.l0 kj4 (rdOf ByteArray.empty t141 (Int.tmod (wrap64 (a1)) (t141.length : Int))) (rdOf ByteArray.empty t141 (Int.tmod (wrap64 (a2)) (t141.length : Int))) (⟨#[]⟩ : ByteArray) (⟨#[]⟩ : ByteArray) 0 0 0) else (none)) else (none)) else (none)) else (none))) = some r := by rw [if_neg (show ¬ (false = true) by decide)] at H; exact H
    clear H
    have H := H1
    clear H1
    by_cases c13 : (t141.length : Int) = 0
    ·rw [if_pos c13] at H
     exact absurd H (by simp)
    ·rw [if_neg c13] at H
     have c13b0 : ((t141.length : Int) == 0) = false := beq_eq_false_iff_ne.mpr c13
     have c13b1 : ((t141.length : Int) != 0) = true := bne_iff_ne.mpr c13
     have c13b2 : ¬ (t141 = []) := fun h_ => c13 (by rw [h_]; rfl)
     obtain ⟨ji14, hji14⟩ : ∃ j_ : Int, (Int.tmod (wrap64 (a1)) (t141.length : Int)) = j_ := ⟨_, rfl⟩
     replace H : (if 0 ≤ (ji14) then (if (ji14) < (t141.length : Int) then (if 0 ≤ (Int.tmod (wrap64 (a2)) (t141.length : Int)) then (if (Int.tmod (wrap64 (a2)) (t141.length : Int)) < (t141.length : Int) then (pritcheltop_TopSigns.l0 kj4 (rdOf ByteArray.empty t141 (ji14)) (rdOf ByteArray.empty t141 (Int.tmod (wrap64 (a2)) (t141.length : Int))) (⟨#[]⟩ : ByteArray) (⟨#[]⟩ : ByteArray) 0 0 0) else (none)) else (none)) else (none)) else (none)) = some r := by first | (rw [hji14] at H; exact H) | (simp only [hji14] at H ⊢; exact H)
     by_cases c15 : 0 ≤ (ji14)
     ·rw [if_pos c15] at H
      have c15b0 : decide (0 ≤ (ji14)) = true := decide_eq_true c15
      clear c15
      by_cases c16 : (ji14) < (t141.length : Int)
      ·rw [if_pos c16] at H
       have c16b0 : decide ((ji14) < (t141.length : Int)) = true := decide_eq_true c16
       clear c16
       obtain ⟨ji17, hji17⟩ : ∃ j_ : Int, (Int.tmod (wrap64 (a2)) (t141.length : Int)) = j_ := ⟨_, rfl⟩
       replace H : (if 0 ≤ (ji17) then (if (ji17) < (t141.length : Int) then (pritcheltop_TopSigns.l0 kj4 (rdOf ByteArray.empty t141 (ji14)) (rdOf ByteArray.empty t141 (ji17)) (⟨#[]⟩ : ByteArray) (⟨#[]⟩ : ByteArray) 0 0 0) else (none)) else (none)) = some r := by first | (rw [hji17] at H; exact H) | (simp only [hji17] at H ⊢; exact H)
       by_cases c18 : 0 ≤ (ji17)
       ·rw [if_pos c18] at H
        have c18b0 : decide (0 ≤ (ji17)) = true := decide_eq_true c18
        clear c18
        by_cases c19 : (ji17) < (t141.length : Int)
        ·rw [if_pos c19] at H
         have c19b0 : decide ((ji17) < (t141.length : Int)) = true := decide_eq_true c19
         clear c19
         have H' := Aside0.mk H
         clear H
         obtain ⟨Ao20, co20, eo20⟩ := Kd.R_slice HO_7.out
         subst eo20
         have p145 : 0 ≤ ((ji14) : Int) := of_decide_eq_true (by first | (with_reducible assumption) | assumption)
         have q145 : (ji14) < (t141.length : Int) := of_decide_eq_true (by first | (with_reducible assumption) | assumption)
         obtain ⟨ad145, e145, hx145_0⟩ := Kd.at_string (Kd.R_reads' HO_7.out).2.2 (ji14) p145 q145
         cases e145
         replace p145 := eq_true p145
         replace q145 := eq_true q145
         have p146 : 0 ≤ ((ji17) : Int) := of_decide_eq_true (by first | (with_reducible assumption) | assumption)
         have q146 : (ji17) < (t141.length : Int) := of_decide_eq_true (by first | (with_reducible assumption) | assumption)
         obtain ⟨ad146, e146, hx146_0⟩ := Kd.at_string (Kd.R_reads' HO_7.out).2.2 (ji17) p146 q146
         obtain rfl : ad145 = ad146 := (by injection e146)
         replace p146 := eq_true p146
         replace q146 := eq_true q146
         go_wp2
         repeat (go_quiet (fail); try go_wp2)
         go_loopg [11, 12, 13, 14, 15] kj4 (fun kq v11 v12 v13 v14 v15 w' => ∃ (x11_2 : ByteArray) (x12_2 : ByteArray) (x13_2 : Int) (x14_2 : Int) (x15_2 : Int), v11 = .string x11_2 ∧ v12 = .string x12_2 ∧ v13 = .int .i64 x13_2 ∧ v14 = .int .i64 x14_2 ∧ v15 = .int .i64 x15_2 ∧ Aside0 (pritcheltop_TopSigns.l0 kq (rdOf ByteArray.empty t141 (ji14)) (rdOf ByteArray.empty t141 (ji17)) x11_2 x12_2 x13_2 x14_2 x15_2 = some r) ∧ Aside0 (kq ≤ kj4) ∧ Aside0 (Below w.heap.size w w'))
         case atStart => exact ⟨((⟨#[]⟩ : ByteArray)), ((⟨#[]⟩ : ByteArray)), (0), (0), (0), (by first | rfl | (simp; done) | (simp [*]; done)), (by first | rfl | (simp; done) | (simp [*]; done)), (by first | rfl | (simp; done) | (simp [*]; done)), (by first | rfl | (simp; done) | (simp [*]; done)), (by first | rfl | (simp; done) | (simp [*]; done)), H', ⟨Nat.le_refl _⟩, ⟨by repeat (first | (with_reducible first | exact HB.out | apply below_alloc | apply pw_below_drewN | apply below_drew1) | exact HB.out)⟩⟩
         case round =>
          clear H'
          try clear c1
          try clear p1
          try clear q1
          try clear hx1
          try clear p2
          try clear c3
          try clear p6
          try clear c7
          try clear c7b0
          try clear c7b1
          try clear c9
          try clear c9b0
          try clear c9b1
          try clear c12
          try clear c13
          try clear c13b0
          try clear c13b1
          try clear c13b2
          try clear p14
          try clear q14
          try clear hx14
          try clear c15
          try clear c15b0
          try clear c16
          try clear c16b0
          try clear c18
          try clear c18b0
          try clear c19
          try clear c19b0
          try clear hx145_0
          try clear hx146_0
          try clear p145
          try clear p146
          try clear p2
          try clear p6
          try clear q145
          try clear q146
          obtain ⟨x11_2, x12_2, x13_2, x14_2, x15_2, rfl, rfl, rfl, rfl, rfl, HA, HK2, HB⟩ := hrel
          cases gk with
          | zero => exact absurd HA.out (by simp [pritcheltop_TopSigns.l0])
          | succ k2 =>
           have H := HA.out
           clear HA
           simp only [pritcheltop_TopSigns.l0] at H
           have HC21 := Aside0.mk H
           clear H
           go_upto_region 7 with (fail)
           repeat (go_quiet (fail); go_upto_region 7 with (fail))
           go_cut [67] (fun v67 wc => ∃ (kq : Nat) (x67_20 : Bool), v67 = .bool x67_20 ∧ Aside0 (pritcheltop_TopSigns.j2 kq (rdOf ByteArray.empty t141 (ji14)) (rdOf ByteArray.empty t141 (ji17)) x11_2 x12_2 x13_2 x14_2 x15_2 x67_20 = some r) ∧ Aside0 (kq ≤ k2) ∧ Aside0 (Below w.heap.size w wc))
           case first =>
            have H := HC21.out
            clear HC21
            by_cases c22 : x15_2 < ((rdOf ByteArray.empty t141 (ji14)).size : Int)
            ·rw [if_pos c22] at H
             have c22b0 : decide (x15_2 < ((rdOf ByteArray.empty t141 (ji14)).size : Int)) = true := decide_eq_true c22
             clear c22
             (first | rw [c22b0] | (simp only [i64_w, i32_w]; rw [c22b0]) | skip)
             have H' := Aside0.mk H
             clear H
             go_wp2
             repeat (go_quiet (fail); try go_wp2)
             go_meet
             case rel => exact ⟨_, (decide (x15_2 < ((rdOf ByteArray.empty t141 (ji17)).size : Int))), (by first | rfl | (simp; done) | (simp only [← hji17] <;> (first | rfl | simp)) | (simp [*]; done)), H', ⟨by have := HJ4.out; have := HK2.out; first | omega | exact Nat.le_refl _⟩, ⟨by repeat (first | (with_reducible first | exact HB.out | apply below_alloc | apply pw_below_drewN | apply below_drew1) | exact HB.out)⟩⟩
            ·rw [if_neg c22] at H
             have c22b0 : decide (x15_2 < ((rdOf ByteArray.empty t141 (ji14)).size : Int)) = false := decide_eq_false c22
             clear c22
             (first | rw [c22b0] | (simp only [i64_w, i32_w]; rw [c22b0]) | skip)
             have H' := Aside0.mk H
             clear H
             go_wp2
             repeat (go_quiet (fail); try go_wp2)
             go_meet
             case rel => exact ⟨_, (false), (by first | rfl | (simp; done) | (simp [*]; done)), H', ⟨by have := HJ4.out; have := HK2.out; first | omega | exact Nat.le_refl _⟩, ⟨by repeat (first | (with_reducible first | exact HB.out | apply below_alloc | apply pw_below_drewN | apply below_drew1) | exact HB.out)⟩⟩
           case rest =>
            clear HC21
            try clear c1
            try clear p1
            try clear q1
            try clear hx1
            try clear c2
            try clear p2
            try clear c3
            try clear p6
            try clear c7
            try clear c7b0
            try clear c7b1
            try clear c9
            try clear c9b0
            try clear c9b1
            try clear c12
            try clear c13
            try clear c13b0
            try clear c13b1
            try clear c13b2
            try clear p14
            try clear q14
            try clear hx14
            try clear c15
            try clear c15b0
            try clear c16
            try clear c16b0
            try clear c18
            try clear c18b0
            try clear c19
            try clear c19b0
            try clear c22
            try clear c22b0
            try clear hx145_0
            try clear hx146_0
            try clear p1
            try clear p14
            try clear p145
            try clear p146
            try clear p2
            try clear p6
            try clear q1
            try clear q14
            try clear q145
            try clear q146
            obtain ⟨kq, x67_20, rfl, HA, HJ20, HB⟩ := hcut
            cases kq with
            | zero => exact absurd HA.out (by simp [pritcheltop_TopSigns.j2])
            | succ kj20 =>
             have H := HA.out
             clear HA
             simp only [pritcheltop_TopSigns.j2] at H
             by_cases c23 : x67_20 = true
             ·subst c23
              have H1 : (if 0 ≤ x15_2 then (if x15_2 < ((rdOf ByteArray.empty t141 (ji14)).size : Int) then (if (bt (rdOf ByteArray.empty t141 (ji14)) x15_2) = 45 then (pritcheltop_TopSigns.j3 kj20 (rdOf ByteArray.empty t141 (ji14)) (rdOf ByteArray.empty t141 (ji17)) x11_2 x12_2 (wrap64 (x13_2 + 1)) x14_2 x15_2 (⟨#[49]⟩ : ByteArray) (⟨#[48]⟩ : ByteArray)) else (pritcheltop_TopSigns.j3 kj20 (rdOf ByteArray.empty t141 (ji14)) (rdOf ByteArray.empty t141 (ji17)) x11_2 x12_2 x13_2 x14_2 x15_2 (⟨#[48]⟩ : ByteArray) (⟨#[48]⟩ : ByteArray))) else (none)) else (none)) = some r := by rw [if_pos rfl] at H; exact H
              clear H
              have H := H1
              clear H1
              by_cases c24 : 0 ≤ x15_2
              ·rw [if_pos c24] at H
               have c24b0 : decide (0 ≤ x15_2) = true := decide_eq_true c24
               clear c24
               by_cases c25 : x15_2 < ((rdOf ByteArray.empty t141 (ji14)).size : Int)
               ·rw [if_pos c25] at H
                have c25b0 : decide (x15_2 < ((rdOf ByteArray.empty t141 (ji14)).size : Int)) = true := decide_eq_true c25
                clear c25
                have HC27 := Aside0.mk H
                clear H
                have p26 : 0 ≤ (x15_2 : Int) := of_decide_eq_true (by first | (with_reducible assumption) | assumption)
                have q26 : x15_2 < ((rdOf ByteArray.empty t141 (ji14)).size : Int) := of_decide_eq_true (by first | (with_reducible assumption) | assumption)
                have hx26 := bt_at (rdOf ByteArray.empty t141 (ji14)) x15_2
                replace p26 := eq_true p26
                replace q26 := eq_true q26
                go_upto_if 73 with (fail)
                repeat (go_quiet (fail); go_upto_if 73 with (fail))
                go_cut [13, 16] (fun v13 v16 wc => ∃ (kq : Nat) (x13_26 : Int) (x16_26 : ByteArray), v13 = .int .i64 x13_26 ∧ v16 = .string x16_26 ∧ Aside0 (pritcheltop_TopSigns.j3 kq (rdOf ByteArray.empty t141 (ji14)) (rdOf ByteArray.empty t141 (ji17)) x11_2 x12_2 x13_26 x14_2 x15_2 x16_26 (⟨#[48]⟩ : ByteArray) = some r) ∧ Aside0 (kq ≤ kj20) ∧ Aside0 (Below w.heap.size w wc))
                case first =>
                 have H := HC27.out
                 clear HC27
                 by_cases c28 : (bt (rdOf ByteArray.empty t141 (ji14)) x15_2) = 45
                 ·rw [if_pos c28] at H
                  have c28b0 : ((bt (rdOf ByteArray.empty t141 (ji14)) x15_2) == 45) = true := beq_iff_eq.mpr c28
                  have c28b1 : ((bt (rdOf ByteArray.empty t141 (ji14)) x15_2) != 45) = false := bne_eq_false_iff_eq.mpr c28
                  clear c28
                  (first | rw [c28b0] | (simp only [i64_w, i32_w]; rw [c28b0]) | skip)
                  have H' := Aside0.mk H
                  clear H
                  go_wp2
                  repeat (go_quiet (fail); try go_wp2)
                  go_meet
                  case rel => exact ⟨_, (wrap64 (x13_2 + 1)), ((⟨#[49]⟩ : ByteArray)), (by first | rfl | (simp; done) | (simp [*]; done)), (by first | rfl | (simp; done) | (simp [*]; done)), H', ⟨by have := HJ4.out; have := HK2.out; have := HJ20.out; first | omega | exact Nat.le_refl _⟩, ⟨by repeat (first | (with_reducible first | exact HB.out | apply below_alloc | apply pw_below_drewN | apply below_drew1) | exact HB.out)⟩⟩
                 ·rw [if_neg c28] at H
                  have c28b0 : ((bt (rdOf ByteArray.empty t141 (ji14)) x15_2) == 45) = false := beq_eq_false_iff_ne.mpr c28
                  have c28b1 : ((bt (rdOf ByteArray.empty t141 (ji14)) x15_2) != 45) = true := bne_iff_ne.mpr c28
                  (first | rw [c28b0] | (simp only [i64_w, i32_w]; rw [c28b0]) | skip)
                  have H' := Aside0.mk H
                  clear H
                  go_wp2
                  repeat (go_quiet (fail); try go_wp2)
                  go_meet
                  case rel => exact ⟨_, (x13_2), ((⟨#[48]⟩ : ByteArray)), (by first | rfl | (simp; done) | (simp [*]; done)), (by first | rfl | (simp; done) | (simp [*]; done)), H', ⟨by have := HJ4.out; have := HK2.out; have := HJ20.out; first | omega | exact Nat.le_refl _⟩, ⟨by repeat (first | (with_reducible first | exact HB.out | apply below_alloc | apply pw_below_drewN | apply below_drew1) | exact HB.out)⟩⟩
                case rest =>
                 clear HC27
                 try clear c1
                 try clear p1
                 try clear q1
                 try clear hx1
                 try clear c2
                 try clear p2
                 try clear q2
                 try clear hx2
                 try clear c3
                 try clear p6
                 try clear c7
                 try clear c7b0
                 try clear c7b1
                 try clear c9
                 try clear c9b0
                 try clear c9b1
                 try clear c12
                 try clear c13
                 try clear c13b0
                 try clear c13b1
                 try clear c13b2
                 try clear p14
                 try clear q14
                 try clear hx14
                 try clear c15
                 try clear c15b0
                 try clear c16
                 try clear c16b0
                 try clear c18
                 try clear c18b0
                 try clear c19
                 try clear c19b0
                 try clear c22
                 try clear c22b0
                 try clear c23
                 try clear c24
                 try clear c24b0
                 try clear c25
                 try clear c25b0
                 try clear p26
                 try clear q26
                 try clear hx26
                 try clear c28
                 try clear c28b0
                 try clear c28b1
                 try clear hx145_0
                 try clear hx146_0
                 try clear p1
                 try clear p14
                 try clear p145
                 try clear p146
                 try clear p2
                 try clear p26
                 try clear p6
                 try clear q1
                 try clear q14
                 try clear q145
                 try clear q146
                 try clear q26
                 obtain ⟨kq, x13_26, x16_26, rfl, rfl, HA, HJ26, HB⟩ := hcut
                 cases kq with
                 | zero => exact absurd HA.out (by simp [pritcheltop_TopSigns.j3])
                 | succ kj26 =>
                  have H := HA.out
                  clear HA
                  simp only [pritcheltop_TopSigns.j3] at H
                  by_cases c29 : 0 ≤ x15_2
                  ·rw [if_pos c29] at H
                   have c29b0 : decide (0 ≤ x15_2) = true := decide_eq_true c29
                   clear c29
                   by_cases c30 : x15_2 < ((rdOf ByteArray.empty t141 (ji17)).size : Int)
                   ·rw [if_pos c30] at H
                    have c30b0 : decide (x15_2 < ((rdOf ByteArray.empty t141 (ji17)).size : Int)) = true := decide_eq_true c30
                    clear c30
                    by_cases c32 : (bt (rdOf ByteArray.empty t141 (ji17)) x15_2) = 45
                    ·rw [if_pos c32] at H
                     have c32b0 : ((bt (rdOf ByteArray.empty t141 (ji17)) x15_2) == 45) = true := beq_iff_eq.mpr c32
                     have c32b1 : ((bt (rdOf ByteArray.empty t141 (ji17)) x15_2) != 45) = false := bne_eq_false_iff_eq.mpr c32
                     clear c32
                     by_cases c33 : x15_2 < ((rdOf ByteArray.empty t141 (ji14)).size : Int)
                     ·rw [if_pos c33] at H
                      have c33b0 : decide (x15_2 < ((rdOf ByteArray.empty t141 (ji14)).size : Int)) = true := decide_eq_true c33
                      clear c33
                      by_cases c36 : (bt (rdOf ByteArray.empty t141 (ji14)) x15_2) = (bt (rdOf ByteArray.empty t141 (ji17)) x15_2)
                      ·rw [if_pos c36] at H
                       have c36b0 : ((bt (rdOf ByteArray.empty t141 (ji14)) x15_2) == (bt (rdOf ByteArray.empty t141 (ji17)) x15_2)) = true := beq_iff_eq.mpr c36
                       have c36b1 : ((bt (rdOf ByteArray.empty t141 (ji14)) x15_2) != (bt (rdOf ByteArray.empty t141 (ji17)) x15_2)) = false := bne_eq_false_iff_eq.mpr c36
                       clear c36
                       by_cases c37 : x11_2.size + x16_26.size ≤ 9223372036854775807
                       ·rw [if_pos c37] at H
                        have c37b0 := eq_true c37
                        have c37b1 : decide (x11_2.size + x16_26.size ≤ 9223372036854775807) = true := decide_eq_true c37
                        try have c37b2 : (9223372036854775807 < x11_2.size + x16_26.size) = False := eq_false (Nat.not_lt.2 c37)
                        by_cases c38 : x12_2.size + 1 ≤ 9223372036854775807
                        ·rw [if_pos c38] at H
                         have c38b0 := eq_true c38
                         have c38b1 : decide (x12_2.size + 1 ≤ 9223372036854775807) = true := decide_eq_true c38
                         try have c38b2 : (9223372036854775807 < x12_2.size + 1) = False := eq_false (Nat.not_lt.2 c38)
                         have H' := Aside0.mk H
                         clear H
                         have p31 : 0 ≤ (x15_2 : Int) := of_decide_eq_true (by first | (with_reducible assumption) | assumption)
                         have q31 : x15_2 < ((rdOf ByteArray.empty t141 (ji17)).size : Int) := of_decide_eq_true (by first | (with_reducible assumption) | assumption)
                         have hx31 := bt_at (rdOf ByteArray.empty t141 (ji17)) x15_2
                         replace p31 := eq_true p31
                         replace q31 := eq_true q31
                         have p34 : 0 ≤ (x15_2 : Int) := of_decide_eq_true (by first | (with_reducible assumption) | assumption)
                         have q34 : x15_2 < ((rdOf ByteArray.empty t141 (ji14)).size : Int) := of_decide_eq_true (by first | (with_reducible assumption) | assumption)
                         have hx34 := bt_at (rdOf ByteArray.empty t141 (ji14)) x15_2
                         replace p34 := eq_true p34
                         replace q34 := eq_true q34
                         have p35 : 0 ≤ (x15_2 : Int) := of_decide_eq_true (by first | (with_reducible assumption) | assumption)
                         have q35 : x15_2 < ((rdOf ByteArray.empty t141 (ji17)).size : Int) := of_decide_eq_true (by first | (with_reducible assumption) | assumption)
                         have hx35 := bt_at (rdOf ByteArray.empty t141 (ji17)) x15_2
                         replace p35 := eq_true p35
                         replace q35 := eq_true q35
                         go_wp2
                         repeat (go_quiet (fail); try go_wp2)
                         go_roundg kj26
                         case measure => have := HJ4.out; have := HK2.out; have := HJ20.out; have := HJ26.out; omega
                         case rel => exact ⟨(x11_2 ++ x16_26), (x12_2 ++ (⟨#[49]⟩ : ByteArray)), (x13_26), (x14_2), (wrap64 (x15_2 + 1)), (by first | rfl | (simp; done) | (simp [*]; done)), (by first | rfl | (simp; done) | (simp [*]; done)), (by first | rfl | (simp; done) | (simp [*]; done)), (by first | rfl | (simp; done) | (simp [*]; done)), (by first | rfl | (simp; done) | (simp [*]; done)), H', ⟨by have := HJ4.out; have := HK2.out; have := HJ20.out; have := HJ26.out; omega⟩, ⟨by repeat (first | (with_reducible first | exact HB.out | apply below_alloc | apply pw_below_drewN | apply below_drew1) | exact HB.out)⟩⟩
                        ·rw [if_neg c38] at H
                         exact absurd H (by simp)
                       ·rw [if_neg c37] at H
                        exact absurd H (by simp)
                      ·rw [if_neg c36] at H
                       have c36b0 : ((bt (rdOf ByteArray.empty t141 (ji14)) x15_2) == (bt (rdOf ByteArray.empty t141 (ji17)) x15_2)) = false := beq_eq_false_iff_ne.mpr c36
                       have c36b1 : ((bt (rdOf ByteArray.empty t141 (ji14)) x15_2) != (bt (rdOf ByteArray.empty t141 (ji17)) x15_2)) = true := bne_iff_ne.mpr c36
                       by_cases c39 : x11_2.size + x16_26.size ≤ 9223372036854775807
                       ·rw [if_pos c39] at H
                        have c39b0 := eq_true c39
                        have c39b1 : decide (x11_2.size + x16_26.size ≤ 9223372036854775807) = true := decide_eq_true c39
                        try have c39b2 : (9223372036854775807 < x11_2.size + x16_26.size) = False := eq_false (Nat.not_lt.2 c39)
                        by_cases c40 : x12_2.size + 1 ≤ 9223372036854775807
                        ·rw [if_pos c40] at H
                         have c40b0 := eq_true c40
                         have c40b1 : decide (x12_2.size + 1 ≤ 9223372036854775807) = true := decide_eq_true c40
                         try have c40b2 : (9223372036854775807 < x12_2.size + 1) = False := eq_false (Nat.not_lt.2 c40)
                         have H' := Aside0.mk H
                         clear H
                         have p31 : 0 ≤ (x15_2 : Int) := of_decide_eq_true (by first | (with_reducible assumption) | assumption)
                         have q31 : x15_2 < ((rdOf ByteArray.empty t141 (ji17)).size : Int) := of_decide_eq_true (by first | (with_reducible assumption) | assumption)
                         have hx31 := bt_at (rdOf ByteArray.empty t141 (ji17)) x15_2
                         replace p31 := eq_true p31
                         replace q31 := eq_true q31
                         have p34 : 0 ≤ (x15_2 : Int) := of_decide_eq_true (by first | (with_reducible assumption) | assumption)
                         have q34 : x15_2 < ((rdOf ByteArray.empty t141 (ji14)).size : Int) := of_decide_eq_true (by first | (with_reducible assumption) | assumption)
                         have hx34 := bt_at (rdOf ByteArray.empty t141 (ji14)) x15_2
                         replace p34 := eq_true p34
                         replace q34 := eq_true q34
                         have p35 : 0 ≤ (x15_2 : Int) := of_decide_eq_true (by first | (with_reducible assumption) | assumption)
                         have q35 : x15_2 < ((rdOf ByteArray.empty t141 (ji17)).size : Int) := of_decide_eq_true (by first | (with_reducible assumption) | assumption)
                         have hx35 := bt_at (rdOf ByteArray.empty t141 (ji17)) x15_2
                         replace p35 := eq_true p35
                         replace q35 := eq_true q35
                         go_wp2
                         repeat (go_quiet (fail); try go_wp2)
                         go_roundg kj26
                         case measure => have := HJ4.out; have := HK2.out; have := HJ20.out; have := HJ26.out; omega
                         case rel => exact ⟨(x11_2 ++ x16_26), (x12_2 ++ (⟨#[49]⟩ : ByteArray)), (x13_26), (wrap64 (x14_2 + 1)), (wrap64 (x15_2 + 1)), (by first | rfl | (simp; done) | (simp [*]; done)), (by first | rfl | (simp; done) | (simp [*]; done)), (by first | rfl | (simp; done) | (simp [*]; done)), (by first | rfl | (simp; done) | (simp [*]; done)), (by first | rfl | (simp; done) | (simp [*]; done)), H', ⟨by have := HJ4.out; have := HK2.out; have := HJ20.out; have := HJ26.out; omega⟩, ⟨by repeat (first | (with_reducible first | exact HB.out | apply below_alloc | apply pw_below_drewN | apply below_drew1) | exact HB.out)⟩⟩
                        ·rw [if_neg c40] at H
                         exact absurd H (by simp)
                       ·rw [if_neg c39] at H
                        exact absurd H (by simp)
                     ·rw [if_neg c33] at H
                      exact absurd H (by simp)
                    ·rw [if_neg c32] at H
                     have c32b0 : ((bt (rdOf ByteArray.empty t141 (ji17)) x15_2) == 45) = false := beq_eq_false_iff_ne.mpr c32
                     have c32b1 : ((bt (rdOf ByteArray.empty t141 (ji17)) x15_2) != 45) = true := bne_iff_ne.mpr c32
                     by_cases c41 : x15_2 < ((rdOf ByteArray.empty t141 (ji14)).size : Int)
                     ·rw [if_pos c41] at H
                      have c41b0 : decide (x15_2 < ((rdOf ByteArray.empty t141 (ji14)).size : Int)) = true := decide_eq_true c41
                      clear c41
                      by_cases c44 : (bt (rdOf ByteArray.empty t141 (ji14)) x15_2) = (bt (rdOf ByteArray.empty t141 (ji17)) x15_2)
                      ·rw [if_pos c44] at H
                       have c44b0 : ((bt (rdOf ByteArray.empty t141 (ji14)) x15_2) == (bt (rdOf ByteArray.empty t141 (ji17)) x15_2)) = true := beq_iff_eq.mpr c44
                       have c44b1 : ((bt (rdOf ByteArray.empty t141 (ji14)) x15_2) != (bt (rdOf ByteArray.empty t141 (ji17)) x15_2)) = false := bne_eq_false_iff_eq.mpr c44
                       clear c44
                       by_cases c45 : x11_2.size + x16_26.size ≤ 9223372036854775807
                       ·rw [if_pos c45] at H
                        have c45b0 := eq_true c45
                        have c45b1 : decide (x11_2.size + x16_26.size ≤ 9223372036854775807) = true := decide_eq_true c45
                        try have c45b2 : (9223372036854775807 < x11_2.size + x16_26.size) = False := eq_false (Nat.not_lt.2 c45)
                        by_cases c46 : x12_2.size + (⟨#[48]⟩ : ByteArray).size ≤ 9223372036854775807
                        ·rw [if_pos c46] at H
                         have c46b0 := eq_true c46
                         have c46b1 : decide (x12_2.size + (⟨#[48]⟩ : ByteArray).size ≤ 9223372036854775807) = true := decide_eq_true c46
                         try have c46b2 : (9223372036854775807 < x12_2.size + (⟨#[48]⟩ : ByteArray).size) = False := eq_false (Nat.not_lt.2 c46)
                         have H' := Aside0.mk H
                         clear H
                         have p31 : 0 ≤ (x15_2 : Int) := of_decide_eq_true (by first | (with_reducible assumption) | assumption)
                         have q31 : x15_2 < ((rdOf ByteArray.empty t141 (ji17)).size : Int) := of_decide_eq_true (by first | (with_reducible assumption) | assumption)
                         have hx31 := bt_at (rdOf ByteArray.empty t141 (ji17)) x15_2
                         replace p31 := eq_true p31
                         replace q31 := eq_true q31
                         have p42 : 0 ≤ (x15_2 : Int) := of_decide_eq_true (by first | (with_reducible assumption) | assumption)
                         have q42 : x15_2 < ((rdOf ByteArray.empty t141 (ji14)).size : Int) := of_decide_eq_true (by first | (with_reducible assumption) | assumption)
                         have hx42 := bt_at (rdOf ByteArray.empty t141 (ji14)) x15_2
                         replace p42 := eq_true p42
                         replace q42 := eq_true q42
                         have p43 : 0 ≤ (x15_2 : Int) := of_decide_eq_true (by first | (with_reducible assumption) | assumption)
                         have q43 : x15_2 < ((rdOf ByteArray.empty t141 (ji17)).size : Int) := of_decide_eq_true (by first | (with_reducible assumption) | assumption)
                         have hx43 := bt_at (rdOf ByteArray.empty t141 (ji17)) x15_2
                         replace p43 := eq_true p43
                         replace q43 := eq_true q43
                         go_wp2
                         repeat (go_quiet (fail); try go_wp2)
                         go_roundg kj26
                         case measure => have := HJ4.out; have := HK2.out; have := HJ20.out; have := HJ26.out; omega
                         case rel => exact ⟨(x11_2 ++ x16_26), (x12_2 ++ (⟨#[48]⟩ : ByteArray)), (x13_26), (x14_2), (wrap64 (x15_2 + 1)), (by first | rfl | (simp; done) | (simp [*]; done)), (by first | rfl | (simp; done) | (simp [*]; done)), (by first | rfl | (simp; done) | (simp [*]; done)), (by first | rfl | (simp; done) | (simp [*]; done)), (by first | rfl | (simp; done) | (simp [*]; done)), H', ⟨by have := HJ4.out; have := HK2.out; have := HJ20.out; have := HJ26.out; omega⟩, ⟨by repeat (first | (with_reducible first | exact HB.out | apply below_alloc | apply pw_below_drewN | apply below_drew1) | exact HB.out)⟩⟩
                        ·rw [if_neg c46] at H
                         exact absurd H (by simp)
                       ·rw [if_neg c45] at H
                        exact absurd H (by simp)
                      ·rw [if_neg c44] at H
                       have c44b0 : ((bt (rdOf ByteArray.empty t141 (ji14)) x15_2) == (bt (rdOf ByteArray.empty t141 (ji17)) x15_2)) = false := beq_eq_false_iff_ne.mpr c44
                       have c44b1 : ((bt (rdOf ByteArray.empty t141 (ji14)) x15_2) != (bt (rdOf ByteArray.empty t141 (ji17)) x15_2)) = true := bne_iff_ne.mpr c44
                       by_cases c47 : x11_2.size + x16_26.size ≤ 9223372036854775807
                       ·rw [if_pos c47] at H
                        have c47b0 := eq_true c47
                        have c47b1 : decide (x11_2.size + x16_26.size ≤ 9223372036854775807) = true := decide_eq_true c47
                        try have c47b2 : (9223372036854775807 < x11_2.size + x16_26.size) = False := eq_false (Nat.not_lt.2 c47)
                        by_cases c48 : x12_2.size + (⟨#[48]⟩ : ByteArray).size ≤ 9223372036854775807
                        ·rw [if_pos c48] at H
                         have c48b0 := eq_true c48
                         have c48b1 : decide (x12_2.size + (⟨#[48]⟩ : ByteArray).size ≤ 9223372036854775807) = true := decide_eq_true c48
                         try have c48b2 : (9223372036854775807 < x12_2.size + (⟨#[48]⟩ : ByteArray).size) = False := eq_false (Nat.not_lt.2 c48)
                         have H' := Aside0.mk H
                         clear H
                         have p31 : 0 ≤ (x15_2 : Int) := of_decide_eq_true (by first | (with_reducible assumption) | assumption)
                         have q31 : x15_2 < ((rdOf ByteArray.empty t141 (ji17)).size : Int) := of_decide_eq_true (by first | (with_reducible assumption) | assumption)
                         have hx31 := bt_at (rdOf ByteArray.empty t141 (ji17)) x15_2
                         replace p31 := eq_true p31
                         replace q31 := eq_true q31
                         have p42 : 0 ≤ (x15_2 : Int) := of_decide_eq_true (by first | (with_reducible assumption) | assumption)
                         have q42 : x15_2 < ((rdOf ByteArray.empty t141 (ji14)).size : Int) := of_decide_eq_true (by first | (with_reducible assumption) | assumption)
                         have hx42 := bt_at (rdOf ByteArray.empty t141 (ji14)) x15_2
                         replace p42 := eq_true p42
                         replace q42 := eq_true q42
                         have p43 : 0 ≤ (x15_2 : Int) := of_decide_eq_true (by first | (with_reducible assumption) | assumption)
                         have q43 : x15_2 < ((rdOf ByteArray.empty t141 (ji17)).size : Int) := of_decide_eq_true (by first | (with_reducible assumption) | assumption)
                         have hx43 := bt_at (rdOf ByteArray.empty t141 (ji17)) x15_2
                         replace p43 := eq_true p43
                         replace q43 := eq_true q43
                         go_wp2
                         repeat (go_quiet (fail); try go_wp2)
                         go_roundg kj26
                         case measure => have := HJ4.out; have := HK2.out; have := HJ20.out; have := HJ26.out; omega
                         case rel => exact ⟨(x11_2 ++ x16_26), (x12_2 ++ (⟨#[48]⟩ : ByteArray)), (x13_26), (wrap64 (x14_2 + 1)), (wrap64 (x15_2 + 1)), (by first | rfl | (simp; done) | (simp [*]; done)), (by first | rfl | (simp; done) | (simp [*]; done)), (by first | rfl | (simp; done) | (simp [*]; done)), (by first | rfl | (simp; done) | (simp [*]; done)), (by first | rfl | (simp; done) | (simp [*]; done)), H', ⟨by have := HJ4.out; have := HK2.out; have := HJ20.out; have := HJ26.out; omega⟩, ⟨by repeat (first | (with_reducible first | exact HB.out | apply below_alloc | apply pw_below_drewN | apply below_drew1) | exact HB.out)⟩⟩
                        ·rw [if_neg c48] at H
                         exact absurd H (by simp)
                       ·rw [if_neg c47] at H
                        exact absurd H (by simp)
                     ·rw [if_neg c41] at H
                      exact absurd H (by simp)
                   ·rw [if_neg c30] at H
                    exact absurd H (by simp)
                  ·rw [if_neg c29] at H
                   exact absurd H (by simp)
               ·rw [if_neg c25] at H
                exact absurd H (by simp)
              ·rw [if_neg c24] at H
               exact absurd H (by simp)
             ·replace c23 := Bool.eq_false_iff.mpr c23
              subst c23
              have H1 : ((gait_Around.f kj20 (rdOf ByteArray.empty t141 (ji14))).bind fun bt147 => ((Pb.mark_Distance.f kj20 x11_2 x12_2).bind fun bt151 => (if bt147.2 = 0 then (if bt151.2 = 0 then (pritcheltop_TopSigns.j4 kj20 (rdOf ByteArray.empty t141 (ji14)) (rdOf ByteArray.empty t141 (ji17)) x13_2 x14_2 bt147.1 bt151.1 ((bt147.1.length : Int) != ((rdOf ByteArray.empty t141 (ji14)).size : Int))) else (pritcheltop_TopSigns.j4 kj20 (rdOf ByteArray.empty t141 (ji14)) (rdOf ByteArray.empty t141 (ji17)) x13_2 x14_2 bt147.1 bt151.1 true)) else (pritcheltop_TopSigns.j4 kj20 (rdOf ByteArray.empty t141 (ji14)) (rdOf ByteArray.empty t141 (ji17)) x13_2 x14_2 bt147.1 bt151.1 true)))) = some r := by rw [if_neg (show ¬ (false = true) by decide)] at H; exact H
              clear H
              have H := H1
              clear H1
              replace H := Option.bind_eq_some_iff.mp H
              obtain ⟨⟨t147, t148⟩, A490, H⟩ := H
              replace H : ((Pb.mark_Distance.f kj20 x11_2 x12_2).bind fun bt151 => (if t148 = 0 then (if bt151.2 = 0 then (pritcheltop_TopSigns.j4 kj20 (rdOf ByteArray.empty t141 (ji14)) (rdOf ByteArray.empty t141 (ji17)) x13_2 x14_2 t147 bt151.1 ((t147.length : Int) != ((rdOf ByteArray.empty t141 (ji14)).size : Int))) else (pritcheltop_TopSigns.j4 kj20 (rdOf ByteArray.empty t141 (ji14)) (rdOf ByteArray.empty t141 (ji17)) x13_2 x14_2 t147 bt151.1 true)) else (pritcheltop_TopSigns.j4 kj20 (rdOf ByteArray.empty t141 (ji14)) (rdOf ByteArray.empty t141 (ji17)) x13_2 x14_2 t147 bt151.1 true))) = some r := H
              have A49 := Aside0.mk A490
              clear A490
              replace H := Option.bind_eq_some_iff.mp H
              obtain ⟨⟨t151, t152⟩, A500, H⟩ := H
              replace H : (if t148 = 0 then (if t152 = 0 then (pritcheltop_TopSigns.j4 kj20 (rdOf ByteArray.empty t141 (ji14)) (rdOf ByteArray.empty t141 (ji17)) x13_2 x14_2 t147 t151 ((t147.length : Int) != ((rdOf ByteArray.empty t141 (ji14)).size : Int))) else (pritcheltop_TopSigns.j4 kj20 (rdOf ByteArray.empty t141 (ji14)) (rdOf ByteArray.empty t141 (ji17)) x13_2 x14_2 t147 t151 true)) else (pritcheltop_TopSigns.j4 kj20 (rdOf ByteArray.empty t141 (ji14)) (rdOf ByteArray.empty t141 (ji17)) x13_2 x14_2 t147 t151 true)) = some r := H
              have A50 := Aside0.mk A500
              clear A500
              have HC51 := Aside0.mk H
              clear H
              go_upto_region 20 with (first | (go_at_call 5; (with_reducible refine (gait_Around.calls kj20 (rdOf ByteArray.empty t141 (ji14)) t147 t148 _ A49.out).mono ?_); rintro e w52 ⟨v149, rfl, ho0, hb⟩; have n0_ := Aside0.mk (Kd.R_lower ho0 (below_size (by repeat (first | (with_reducible first | exact HB.out | apply below_alloc | apply pw_below_drewN | apply below_drew1) | exact HB.out)))); have n1_ := Aside0.mk (below_step (by repeat (first | (with_reducible first | exact HB.out | apply below_alloc | apply pw_below_drewN | apply below_drew1) | exact HB.out)) hb); clear HB; have HO150 := n0_; have HB := n1_; clear n0_ n1_; (try clear hb); (try clear hb2); (try clear hk); (try clear hi); (try clear ho0)) | (go_at_call 6; (with_reducible refine (Pb.mark_Distance.calls kj20 x11_2 x12_2 t151 t152 _ ?side1 A50.out).mono ?_); (case side1 => exact tabs_below HT.out (by repeat (first | (with_reducible first | exact HB.out | apply below_alloc | apply pw_below_drewN | apply below_drew1) | exact HB.out))); rintro e w53 ⟨rfl, hb⟩; have n0_ := Aside0.mk (Kd.R_below (by (with_reducible repeat (first | apply Kd.R_alloc | apply Kd.R_drewN | apply Kd.R_drew)); exact HO150.out) hb); have n1_ := Aside0.mk (below_step (by repeat (first | (with_reducible first | exact HB.out | apply below_alloc | apply pw_below_drewN | apply below_drew1) | exact HB.out)) hb); clear HO150; clear HB; have HO150 := n0_; have HB := n1_; clear n0_ n1_; (try clear hb); (try clear hb2); (try clear hk); (try clear hi)))
              repeat (go_quiet (first | (go_at_call 5; (with_reducible refine (gait_Around.calls kj20 (rdOf ByteArray.empty t141 (ji14)) t147 t148 _ A49.out).mono ?_); rintro e w52 ⟨v149, rfl, ho0, hb⟩; have n0_ := Aside0.mk (Kd.R_lower ho0 (below_size (by repeat (first | (with_reducible first | exact HB.out | apply below_alloc | apply pw_below_drewN | apply below_drew1) | exact HB.out)))); have n1_ := Aside0.mk (below_step (by repeat (first | (with_reducible first | exact HB.out | apply below_alloc | apply pw_below_drewN | apply below_drew1) | exact HB.out)) hb); clear HB; have HO150 := n0_; have HB := n1_; clear n0_ n1_; (try clear hb); (try clear hb2); (try clear hk); (try clear hi); (try clear ho0)) | (go_at_call 6; (with_reducible refine (Pb.mark_Distance.calls kj20 x11_2 x12_2 t151 t152 _ ?side1 A50.out).mono ?_); (case side1 => exact tabs_below HT.out (by repeat (first | (with_reducible first | exact HB.out | apply below_alloc | apply pw_below_drewN | apply below_drew1) | exact HB.out))); rintro e w53 ⟨rfl, hb⟩; have n0_ := Aside0.mk (Kd.R_below (by (with_reducible repeat (first | apply Kd.R_alloc | apply Kd.R_drewN | apply Kd.R_drew)); exact HO150.out) hb); have n1_ := Aside0.mk (below_step (by repeat (first | (with_reducible first | exact HB.out | apply below_alloc | apply pw_below_drewN | apply below_drew1) | exact HB.out)) hb); clear HO150; clear HB; have HO150 := n0_; have HB := n1_; clear n0_ n1_; (try clear hb); (try clear hb2); (try clear hk); (try clear hi))); go_upto_region 20 with (first | (go_at_call 5; (with_reducible refine (gait_Around.calls kj20 (rdOf ByteArray.empty t141 (ji14)) t147 t148 _ A49.out).mono ?_); rintro e w52 ⟨v149, rfl, ho0, hb⟩; have n0_ := Aside0.mk (Kd.R_lower ho0 (below_size (by repeat (first | (with_reducible first | exact HB.out | apply below_alloc | apply pw_below_drewN | apply below_drew1) | exact HB.out)))); have n1_ := Aside0.mk (below_step (by repeat (first | (with_reducible first | exact HB.out | apply below_alloc | apply pw_below_drewN | apply below_drew1) | exact HB.out)) hb); clear HB; have HO150 := n0_; have HB := n1_; clear n0_ n1_; (try clear hb); (try clear hb2); (try clear hk); (try clear hi); (try clear ho0)) | (go_at_call 6; (with_reducible refine (Pb.mark_Distance.calls kj20 x11_2 x12_2 t151 t152 _ ?side1 A50.out).mono ?_); (case side1 => exact tabs_below HT.out (by repeat (first | (with_reducible first | exact HB.out | apply below_alloc | apply pw_below_drewN | apply below_drew1) | exact HB.out))); rintro e w53 ⟨rfl, hb⟩; have n0_ := Aside0.mk (Kd.R_below (by (with_reducible repeat (first | apply Kd.R_alloc | apply Kd.R_drewN | apply Kd.R_drew)); exact HO150.out) hb); have n1_ := Aside0.mk (below_step (by repeat (first | (with_reducible first | exact HB.out | apply below_alloc | apply pw_below_drewN | apply below_drew1) | exact HB.out)) hb); clear HO150; clear HB; have HO150 := n0_; have HB := n1_; clear n0_ n1_; (try clear hb); (try clear hb2); (try clear hk); (try clear hi))))
              (try simp only [Act.put, List.setIfInBounds_toArray, List.set_cons_zero, List.set_cons_succ])
              go_cut [118] (fun v118 wc => ∃ (kq : Nat) (x118_50 : Bool), v118 = .bool x118_50 ∧ Aside0 (pritcheltop_TopSigns.j4 kq (rdOf ByteArray.empty t141 (ji14)) (rdOf ByteArray.empty t141 (ji17)) x13_2 x14_2 t147 t151 x118_50 = some r) ∧ Aside0 (kq ≤ kj20) ∧ Aside0 (Kd.R (Kd.int .i64) 3 wc w.heap.size (fun _ => True) v149 t147) ∧ Aside0 (Below w.heap.size w wc))
              case first =>
               have H := HC51.out
               clear HC51
               by_cases c54 : t148 = 0
               ·rw [if_pos c54] at H
                have c54b0 : (t148 == 0) = true := beq_iff_eq.mpr c54
                have c54b1 : (t148 != 0) = false := bne_eq_false_iff_eq.mpr c54
                clear c54
                (first | rw [c54b0] | (simp only [i64_w, i32_w]; rw [c54b0]) | skip)
                by_cases c55 : t152 = 0
                ·rw [if_pos c55] at H
                 have c55b0 : (t152 == 0) = true := beq_iff_eq.mpr c55
                 have c55b1 : (t152 != 0) = false := bne_eq_false_iff_eq.mpr c55
                 clear c55
                 have H' := Aside0.mk H
                 clear H
                 obtain ⟨Ao56, co56, eo56⟩ := Kd.R_slice HO150.out
                 subst eo56
                 go_wp2
                 repeat (go_quiet (fail); try go_wp2)
                 go_meet
                 case rel => exact ⟨_, (((t147.length : Int) != ((rdOf ByteArray.empty t141 (ji14)).size : Int))), (by first | rfl | (simp; done) | (simp only [← hji14] <;> (first | rfl | simp)) | (simp [*]; done)), H', ⟨by have := HJ4.out; have := HK2.out; have := HJ20.out; first | omega | exact Nat.le_refl _⟩, ⟨by (with_reducible repeat (first | apply Kd.R_alloc | apply Kd.R_drewN | apply Kd.R_drew)); exact HO150.out⟩, ⟨by repeat (first | (with_reducible first | exact HB.out | apply below_alloc | apply pw_below_drewN | apply below_drew1) | exact HB.out)⟩⟩
                ·rw [if_neg c55] at H
                 have c55b0 : (t152 == 0) = false := beq_eq_false_iff_ne.mpr c55
                 have c55b1 : (t152 != 0) = true := bne_iff_ne.mpr c55
                 have H' := Aside0.mk H
                 clear H
                 go_wp2
                 repeat (go_quiet (fail); try go_wp2)
                 go_meet
                 case rel => exact ⟨_, (true), (by first | rfl | (simp; done) | (simp [*]; done)), H', ⟨by have := HJ4.out; have := HK2.out; have := HJ20.out; first | omega | exact Nat.le_refl _⟩, ⟨by (with_reducible repeat (first | apply Kd.R_alloc | apply Kd.R_drewN | apply Kd.R_drew)); exact HO150.out⟩, ⟨by repeat (first | (with_reducible first | exact HB.out | apply below_alloc | apply pw_below_drewN | apply below_drew1) | exact HB.out)⟩⟩
               ·rw [if_neg c54] at H
                have c54b0 : (t148 == 0) = false := beq_eq_false_iff_ne.mpr c54
                have c54b1 : (t148 != 0) = true := bne_iff_ne.mpr c54
                (first | rw [c54b0] | (simp only [i64_w, i32_w]; rw [c54b0]) | skip)
                have H' := Aside0.mk H
                clear H
                go_wp2
                repeat (go_quiet (fail); try go_wp2)
                go_meet
                case rel => exact ⟨_, (true), (by first | rfl | (simp; done) | (simp [*]; done)), H', ⟨by have := HJ4.out; have := HK2.out; have := HJ20.out; first | omega | exact Nat.le_refl _⟩, ⟨by (with_reducible repeat (first | apply Kd.R_alloc | apply Kd.R_drewN | apply Kd.R_drew)); exact HO150.out⟩, ⟨by repeat (first | (with_reducible first | exact HB.out | apply below_alloc | apply pw_below_drewN | apply below_drew1) | exact HB.out)⟩⟩
              case rest =>
               clear HC51
               try clear c1
               try clear p1
               try clear q1
               try clear hx1
               try clear c2
               try clear p2
               try clear q2
               try clear hx2
               try clear c3
               try clear p3
               try clear q3
               try clear hx3
               try clear c4
               try clear p4
               try clear q4
               try clear hx4
               try clear c5
               try clear p6
               try clear c7
               try clear c7b0
               try clear c7b1
               try clear c9
               try clear c9b0
               try clear c9b1
               try clear c12
               try clear c13
               try clear c13b0
               try clear c13b1
               try clear c13b2
               try clear p14
               try clear q14
               try clear hx14
               try clear c15
               try clear c15b0
               try clear c16
               try clear c16b0
               try clear c18
               try clear c18b0
               try clear c19
               try clear c19b0
               try clear c22
               try clear c22b0
               try clear c23
               try clear c24
               try clear c24b0
               try clear c25
               try clear c25b0
               try clear p26
               try clear q26
               try clear hx26
               try clear c28
               try clear c28b0
               try clear c28b1
               try clear c29
               try clear c29b0
               try clear c30
               try clear c30b0
               try clear p31
               try clear q31
               try clear hx31
               try clear c32
               try clear c32b0
               try clear c32b1
               try clear c33
               try clear c33b0
               try clear p34
               try clear q34
               try clear hx34
               try clear p35
               try clear q35
               try clear hx35
               try clear c36
               try clear c36b0
               try clear c36b1
               try clear c37
               try clear c37b0
               try clear c37b1
               try clear c37b2
               try clear c38
               try clear c38b0
               try clear c38b1
               try clear c38b2
               try clear c39
               try clear c39b0
               try clear c39b1
               try clear c39b2
               try clear c40
               try clear c40b0
               try clear c40b1
               try clear c40b2
               try clear c41
               try clear c41b0
               try clear p42
               try clear q42
               try clear hx42
               try clear p43
               try clear q43
               try clear hx43
               try clear c44
               try clear c44b0
               try clear c44b1
               try clear c45
               try clear c45b0
               try clear c45b1
               try clear c45b2
               try clear c46
               try clear c46b0
               try clear c46b1
               try clear c46b2
               try clear c47
               try clear c47b0
               try clear c47b1
               try clear c47b2
               try clear c48
               try clear c48b0
               try clear c48b1
               try clear c48b2
               try clear c54
               try clear c54b0
               try clear c54b1
               try clear c55
               try clear c55b0
               try clear c55b1
               try clear hx145_0
               try clear hx146_0
               try clear p1
               try clear p14
               try clear p145
               try clear p146
               try clear p2
               try clear p26
               try clear p31
               try clear p34
               try clear p35
               try clear p42
               try clear p43
               try clear p6
               try clear q1
               try clear q14
               try clear q145
               try clear q146
               try clear q2
               try clear q26
               try clear q31
               try clear q34
               try clear q35
               try clear q42
               try clear q43
               obtain ⟨kq, x118_50, rfl, HA, HJ50, HO_18, HB⟩ := hcut
               cases kq with
               | zero => exact absurd HA.out (by simp [pritcheltop_TopSigns.j4])
               | succ kj50 =>
                have H := HA.out
                clear HA
                simp only [pritcheltop_TopSigns.j4] at H
                by_cases c57 : x118_50 = true
                ·subst c57
                 have H1 : (some false) = some r := by rw [if_pos rfl] at H; exact H
                 clear H
                 have H := H1
                 clear H1
                 obtain rfl := Option.some.inj H
                 go_wp2
                 repeat (go_quiet (fail); try go_wp2)
                 go_ret
                 exact ⟨by first | rfl | (simp [errW_none, errW_some] <;> rfl) | (simp only [← hji14, ← hji17]; first | rfl | (simp [errW_none, errW_some] <;> rfl)) | (simp [*, errW_none, errW_some] <;> rfl), by repeat (first | (with_reducible first | exact HB.out | apply below_alloc | apply pw_below_drewN | apply below_drew1) | exact HB.out)⟩
                ·replace c57 := Bool.eq_false_iff.mpr c57
                 subst c57
                 have H1 : (pritcheltop_TopSigns.l1 kj50 (rdOf ByteArray.empty t141 (ji14)) (rdOf ByteArray.empty t141 (ji17)) x13_2 x14_2 t147 t151 0 0) = some r := by rw [if_neg (show ¬ (false = true) by decide)] at H; exact H
                 clear H
                 have H := H1
                 clear H1
                 have H' := Aside0.mk H
                 clear H
                 go_wp2
                 repeat (go_quiet (fail); try go_wp2)
                 go_loopg [22, 23] kj50 (fun kq v22 v23 w' => ∃ (x22_5 : Int) (x23_5 : Int), v22 = .int .i64 x22_5 ∧ v23 = .int .i64 x23_5 ∧ Aside0 (pritcheltop_TopSigns.l1 kq (rdOf ByteArray.empty t141 (ji14)) (rdOf ByteArray.empty t141 (ji17)) x13_2 x14_2 t147 t151 x22_5 x23_5 = some r) ∧ Aside0 (kq ≤ kj50) ∧ Aside0 (Kd.R (Kd.int .i64) 3 w' w.heap.size (fun _ => True) v149 t147) ∧ Aside0 (Below w.heap.size w w'))
                 case atStart => exact ⟨(0), (0), (by first | rfl | (simp; done) | (simp [*]; done)), (by first | rfl | (simp; done) | (simp [*]; done)), H', ⟨Nat.le_refl _⟩, ⟨by (with_reducible repeat (first | apply Kd.R_alloc | apply Kd.R_drewN | apply Kd.R_drew)); exact HO_18.out⟩, ⟨by repeat (first | (with_reducible first | exact HB.out | apply below_alloc | apply pw_below_drewN | apply below_drew1) | exact HB.out)⟩⟩
                 case round =>
                  clear H'
                  try clear c1
                  try clear p1
                  try clear q1
                  try clear hx1
                  try clear c2
                  try clear p2
                  try clear q2
                  try clear hx2
                  try clear c3
                  try clear p3
                  try clear q3
                  try clear hx3
                  try clear c4
                  try clear p4
                  try clear q4
                  try clear hx4
                  try clear c5
                  try clear p6
                  try clear c7
                  try clear c7b0
                  try clear c7b1
                  try clear c9
                  try clear c9b0
                  try clear c9b1
                  try clear c12
                  try clear c13
                  try clear c13b0
                  try clear c13b1
                  try clear c13b2
                  try clear p14
                  try clear q14
                  try clear hx14
                  try clear c15
                  try clear c15b0
                  try clear c16
                  try clear c16b0
                  try clear c18
                  try clear c18b0
                  try clear c19
                  try clear c19b0
                  try clear c22
                  try clear c22b0
                  try clear c23
                  try clear c24
                  try clear c24b0
                  try clear c25
                  try clear c25b0
                  try clear p26
                  try clear q26
                  try clear hx26
                  try clear c28
                  try clear c28b0
                  try clear c28b1
                  try clear c29
                  try clear c29b0
                  try clear c30
                  try clear c30b0
                  try clear p31
                  try clear q31
                  try clear hx31
                  try clear c32
                  try clear c32b0
                  try clear c32b1
                  try clear c33
                  try clear c33b0
                  try clear p34
                  try clear q34
                  try clear hx34
                  try clear p35
                  try clear q35
                  try clear hx35
                  try clear c36
                  try clear c36b0
                  try clear c36b1
                  try clear c37
                  try clear c37b0
                  try clear c37b1
                  try clear c37b2
                  try clear c38
                  try clear c38b0
                  try clear c38b1
                  try clear c38b2
                  try clear c39
                  try clear c39b0
                  try clear c39b1
                  try clear c39b2
                  try clear c40
                  try clear c40b0
                  try clear c40b1
                  try clear c40b2
                  try clear c41
                  try clear c41b0
                  try clear p42
                  try clear q42
                  try clear hx42
                  try clear p43
                  try clear q43
                  try clear hx43
                  try clear c44
                  try clear c44b0
                  try clear c44b1
                  try clear c45
                  try clear c45b0
                  try clear c45b1
                  try clear c45b2
                  try clear c46
                  try clear c46b0
                  try clear c46b1
                  try clear c46b2
                  try clear c47
                  try clear c47b0
                  try clear c47b1
                  try clear c47b2
                  try clear c48
                  try clear c48b0
                  try clear c48b1
                  try clear c48b2
                  try clear c54
                  try clear c54b0
                  try clear c54b1
                  try clear c55
                  try clear c55b0
                  try clear c55b1
                  try clear c57
                  try clear hx145_0
                  try clear hx146_0
                  try clear p1
                  try clear p14
                  try clear p145
                  try clear p146
                  try clear p2
                  try clear p26
                  try clear p3
                  try clear p31
                  try clear p34
                  try clear p35
                  try clear p4
                  try clear p42
                  try clear p43
                  try clear p6
                  try clear q1
                  try clear q14
                  try clear q145
                  try clear q146
                  try clear q2
                  try clear q26
                  try clear q3
                  try clear q31
                  try clear q34
                  try clear q35
                  try clear q4
                  try clear q42
                  try clear q43
                  obtain ⟨x22_5, x23_5, rfl, rfl, HA, HK5, HO_18, HB⟩ := hrel
                  cases gk with
                  | zero => exact absurd HA.out (by simp [pritcheltop_TopSigns.l1])
                  | succ k5 =>
                   have H := HA.out
                   clear HA
                   simp only [pritcheltop_TopSigns.l1] at H
                   by_cases c58 : x23_5 < (t147.length : Int)
                   ·rw [if_pos c58] at H
                    have c58b0 : decide (x23_5 < (t147.length : Int)) = true := decide_eq_true c58
                    clear c58
                    by_cases c59 : 0 ≤ x23_5
                    ·rw [if_pos c59] at H
                     have c59b0 : decide (0 ≤ x23_5) = true := decide_eq_true c59
                     clear c59
                     have H' := Aside0.mk H
                     clear H
                     obtain ⟨Ao60, co60, eo60⟩ := Kd.R_slice HO_18.out
                     subst eo60
                     have p153 : 0 ≤ (x23_5 : Int) := of_decide_eq_true (by first | (with_reducible assumption) | assumption)
                     have q153 : x23_5 < (t147.length : Int) := of_decide_eq_true (by first | (with_reducible assumption) | assumption)
                     obtain ⟨ad153, e153, hx153_0⟩ := Kd.at_int (Kd.R_reads' HO_18.out).2.2 x23_5 p153 q153
                     cases e153
                     replace p153 := eq_true p153
                     replace q153 := eq_true q153
                     go_wp2
                     repeat (go_quiet (fail); try go_wp2)
                     go_roundg k5
                     case measure => have := HJ4.out; have := HK2.out; have := HJ20.out; have := HJ50.out; have := HK5.out; omega
                     case rel => exact ⟨(wrap64 (x22_5 + (rd t147 x23_5))), (wrap64 (x23_5 + 1)), (by first | rfl | (simp; done) | (simp [*]; done)), (by first | rfl | (simp; done) | (simp [*]; done)), H', ⟨by have := HJ4.out; have := HK2.out; have := HJ20.out; have := HJ50.out; have := HK5.out; omega⟩, ⟨by (with_reducible repeat (first | apply Kd.R_alloc | apply Kd.R_drewN | apply Kd.R_drew)); exact HO_18.out⟩, ⟨by repeat (first | (with_reducible first | exact HB.out | apply below_alloc | apply pw_below_drewN | apply below_drew1) | exact HB.out)⟩⟩
                    ·rw [if_neg c59] at H
                     exact absurd H (by simp)
                   ·rw [if_neg c58] at H
                    have c58b0 : decide (x23_5 < (t147.length : Int)) = false := decide_eq_false c58
                    clear c58
                    by_cases c61 : x22_5 = (wrap64 ((wrap64 (((rdOf ByteArray.empty t141 (ji14)).size : Int) - (wrap64 (2 * x13_2)))) * (wrap64 (((rdOf ByteArray.empty t141 (ji14)).size : Int) - (wrap64 (2 * x13_2))))))
                    ·rw [if_pos c61] at H
                     have c61b0 : (x22_5 == (wrap64 ((wrap64 (((rdOf ByteArray.empty t141 (ji14)).size : Int) - (wrap64 (2 * x13_2)))) * (wrap64 (((rdOf ByteArray.empty t141 (ji14)).size : Int) - (wrap64 (2 * x13_2))))))) = true := beq_iff_eq.mpr c61
                     have c61b1 : (x22_5 != (wrap64 ((wrap64 (((rdOf ByteArray.empty t141 (ji14)).size : Int) - (wrap64 (2 * x13_2)))) * (wrap64 (((rdOf ByteArray.empty t141 (ji14)).size : Int) - (wrap64 (2 * x13_2))))))) = false := bne_eq_false_iff_eq.mpr c61
                     clear c61
                     by_cases c62 : (((rdOf ByteArray.empty t141 (ji14)).toList == (rdOf ByteArray.empty t141 (ji17)).toList) == (t151 == 0)) = true
                     ·rw [if_pos c62] at H
                      have c62b0 : (((rdOf ByteArray.empty t141 (ji14)).toList == (rdOf ByteArray.empty t141 (ji17)).toList) == (t151 == 0)) = true := c62
                      (try (have c62b1 : decide (((rdOf ByteArray.empty t141 (ji14)).toList == (rdOf ByteArray.empty t141 (ji17)).toList) = (t151 == 0)) = true := by simpa using c62))
                      (try (have c62b2 : (((rdOf ByteArray.empty t141 (ji14)).toList == (rdOf ByteArray.empty t141 (ji17)).toList) == (t151 == 0)) = true := by simpa using c62))
                      clear c62
                      by_cases c63 : t151 ≤ (wrap64 (2 * x14_2))
                      ·rw [if_pos c63] at H
                       have c63b0 : decide (t151 ≤ (wrap64 (2 * x14_2))) = true := decide_eq_true c63
                       clear c63
                       by_cases c64 : (rdOf ByteArray.empty t141 (ji14)).toList = (rdOf ByteArray.empty t141 (ji17)).toList
                       ·rw [if_pos c64] at H
                        have c64b0 : ((rdOf ByteArray.empty t141 (ji14)).toList == (rdOf ByteArray.empty t141 (ji17)).toList) = true := beq_iff_eq.mpr c64
                        have c64b1 : ((rdOf ByteArray.empty t141 (ji14)).toList != (rdOf ByteArray.empty t141 (ji17)).toList) = false := bne_eq_false_iff_eq.mpr c64
                        clear c64
                        obtain rfl := Option.some.inj H
                        obtain ⟨Ao65, co65, eo65⟩ := Kd.R_slice HO_18.out
                        subst eo65
                        obtain rfl : t151 = 0 := by have h_ := c62b0; rw [c64b0] at h_; simpa using h_
                        have c63c : (wrap64 (2 * x14_2) < 0) = False := eq_false (Int.not_lt.2 (of_decide_eq_true c63b0))
                        go_wp2
                        repeat (go_quiet (fail); try go_wp2)
                        go_ret
                        exact ⟨by first | rfl | (simp [errW_none, errW_some] <;> rfl) | (simp only [← hji14, ← hji17]; first | rfl | (simp [errW_none, errW_some] <;> rfl)) | (simp [*, errW_none, errW_some] <;> rfl), by repeat (first | (with_reducible first | exact HB.out | apply below_alloc | apply pw_below_drewN | apply below_drew1) | exact HB.out)⟩
                       ·rw [if_neg c64] at H
                        have c64b0 : ((rdOf ByteArray.empty t141 (ji14)).toList == (rdOf ByteArray.empty t141 (ji17)).toList) = false := beq_eq_false_iff_ne.mpr c64
                        have c64b1 : ((rdOf ByteArray.empty t141 (ji14)).toList != (rdOf ByteArray.empty t141 (ji17)).toList) = true := bne_iff_ne.mpr c64
                        obtain rfl := Option.some.inj H
                        obtain ⟨Ao66, co66, eo66⟩ := Kd.R_slice HO_18.out
                        subst eo66
                        have z0_ : (t151 == 0) = false := by have h_ := c62b0; rw [c64b0] at h_; simpa using h_
                        have z1_ : (t151 = 0) = False := eq_false (by simpa using z0_)
                        go_wp2
                        repeat (go_quiet (fail); try go_wp2)
                        go_ret
                        exact ⟨by first | rfl | (simp [errW_none, errW_some] <;> rfl) | (simp only [← hji14, ← hji17]; first | rfl | (simp [errW_none, errW_some] <;> rfl)) | (simp [*, errW_none, errW_some] <;> rfl), by repeat (first | (with_reducible first | exact HB.out | apply below_alloc | apply pw_below_drewN | apply below_drew1) | exact HB.out)⟩
                      ·rw [if_neg c63] at H
                       have c63b0 : decide (t151 ≤ (wrap64 (2 * x14_2))) = false := decide_eq_false c63
                       clear c63
                       obtain rfl := Option.some.inj H
                       obtain ⟨Ao67, co67, eo67⟩ := Kd.R_slice HO_18.out
                       subst eo67
                       go_wp2
                       repeat (go_quiet (fail); try go_wp2)
                       go_ret
                       exact ⟨by first | rfl | (simp [errW_none, errW_some] <;> rfl) | (simp only [← hji14, ← hji17]; first | rfl | (simp [errW_none, errW_some] <;> rfl)) | (simp [*, errW_none, errW_some] <;> rfl), by repeat (first | (with_reducible first | exact HB.out | apply below_alloc | apply pw_below_drewN | apply below_drew1) | exact HB.out)⟩
                     ·rw [if_neg c62] at H
                      have c62b0 : (((rdOf ByteArray.empty t141 (ji14)).toList == (rdOf ByteArray.empty t141 (ji17)).toList) == (t151 == 0)) = false := by simpa using c62
                      (try (have c62b1 : decide (((rdOf ByteArray.empty t141 (ji14)).toList == (rdOf ByteArray.empty t141 (ji17)).toList) = (t151 == 0)) = false := by simpa using c62))
                      (try (have c62b2 : (((rdOf ByteArray.empty t141 (ji14)).toList == (rdOf ByteArray.empty t141 (ji17)).toList) == (t151 == 0)) = false := by simpa using c62))
                      (try (have c62b3 : ¬ (((rdOf ByteArray.empty t141 (ji14)).toList == (rdOf ByteArray.empty t141 (ji17)).toList) = (t151 == 0)) := by simpa using c62))
                      clear c62
                      obtain rfl := Option.some.inj H
                      obtain ⟨Ao68, co68, eo68⟩ := Kd.R_slice HO_18.out
                      subst eo68
                      go_wp2
                      repeat (go_quiet (fail); try go_wp2)
                      go_ret
                      exact ⟨by first | rfl | (simp [errW_none, errW_some] <;> rfl) | (simp only [← hji14, ← hji17]; first | rfl | (simp [errW_none, errW_some] <;> rfl)) | (simp [*, errW_none, errW_some] <;> rfl), by repeat (first | (with_reducible first | exact HB.out | apply below_alloc | apply pw_below_drewN | apply below_drew1) | exact HB.out)⟩
                    ·rw [if_neg c61] at H
                     have c61b0 : (x22_5 == (wrap64 ((wrap64 (((rdOf ByteArray.empty t141 (ji14)).size : Int) - (wrap64 (2 * x13_2)))) * (wrap64 (((rdOf ByteArray.empty t141 (ji14)).size : Int) - (wrap64 (2 * x13_2))))))) = false := beq_eq_false_iff_ne.mpr c61
                     have c61b1 : (x22_5 != (wrap64 ((wrap64 (((rdOf ByteArray.empty t141 (ji14)).size : Int) - (wrap64 (2 * x13_2)))) * (wrap64 (((rdOf ByteArray.empty t141 (ji14)).size : Int) - (wrap64 (2 * x13_2))))))) = true := bne_iff_ne.mpr c61
                     obtain rfl := Option.some.inj H
                     obtain ⟨Ao69, co69, eo69⟩ := Kd.R_slice HO_18.out
                     subst eo69
                     go_wp2
                     repeat (go_quiet (fail); try go_wp2)
                     go_ret
                     exact ⟨by first | rfl | (simp [errW_none, errW_some] <;> rfl) | (simp only [← hji14, ← hji17]; first | rfl | (simp [errW_none, errW_some] <;> rfl)) | (simp [*, errW_none, errW_some] <;> rfl), by repeat (first | (with_reducible first | exact HB.out | apply below_alloc | apply pw_below_drewN | apply below_drew1) | exact HB.out)⟩
        ·rw [if_neg c19] at H
         exact absurd H (by simp)
       ·rw [if_neg c18] at H
        exact absurd H (by simp)
      ·rw [if_neg c16] at H
       exact absurd H (by simp)
     ·rw [if_neg c15] at H
      exact absurd H (by simp)

/-- THE ONE PURE STATEMENT of pritcheltop_TopSigns: yours. -/
def pritcheltop_TopSigns.Pure : Prop := ∀ (a0 : Int) (a1 : Int) (a2 : Int), (Lit.int .u8 a0).wf = true → (Lit.int .u8 a1).wf = true → (Lit.int .u8 a2).wf = true → ∃ k, pritcheltop_TopSigns.f k a0 a1 a2 = some true
theorem pritcheltop_TopSigns.walk (P : pritcheltop_TopSigns.Pure) (a0 : Int) (a1 : Int) (a2 : Int) (w : World) (w0 : (Lit.int .u8 a0).wf = true) (w1 : (Lit.int .u8 a1).wf = true) (w2 : (Lit.int .u8 a2).wf = true) (hT : Lib.Utf8Tabs 0 1 w) :
  Calls Tryd.prog 3 #[.int .u8 a0, .int .u8 a1, .int .u8 a2] w fun e w' => e = .returned (.bool true) ∧ Below w.heap.size w w' := by
 obtain ⟨k, h⟩ := P a0 a1 a2 w0 w1 w2
 refine (pritcheltop_TopSigns.calls k a0 a1 a2 true w hT h).mono ?_
 rintro e w' ⟨rfl, hd⟩
 exact ⟨rfl, hd⟩

end Go.Proofs.YthbhgnnfpfblhaaDoor.Qa
