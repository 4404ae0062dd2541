/- The walk of MarkBetween: three words, their distances and what they have in common, two by two, in an array of arrays. -/
import Derived.Test.YtopmcoohdhlnaaaDoorPa12
import Derived.Test.YtopmcoohdhlnaaaDoorPb12
import Derived.Test.YtopmcoohdhlnaaaDoorPb7
namespace Go.Proofs.YtopmcoohdhlnaaaDoor.E
open Go.RowKit Go.Proofs.YtopmcoohdhlnaaaDoorW.PrintWords Go.Proofs.YtopmcoohdhlnaaaDoorW.PrintLast Go.Proofs.YtopmcoohdhlnaaaDoorW.PrintMore
attribute [local go_sem] max2_int min2_int max_two min_two max_three min_three max_four min_four   -- for this text's walks alone
set_option linter.unusedVariables false
set_option linter.unusedSimpArgs false
/-- The three words, by their numbers. -/
def pick3 (s0 s1 s2 : ByteArray) (i : Nat) : ByteArray := if i = 0 then s0 else if i = 1 then s1 else s2
/-- The nine numbers, of which the first n stand. -/
def dcells (d : Nat → Nat → Int) (n : Nat) : Array Value := ((List.range 9).map fun p => Value.int .i64 (if p < n then d (p / 3) (p % 3) else 0)).toArray
theorem dcells_put (d : Nat → Nat → Int) (n : Nat) (hn : n < 9) : (dcells d n).setIfInBounds n (.int .i64 (d (n / 3) (n % 3))) = dcells d (n + 1) := by
  unfold dcells
  have : n = 0 ∨ n = 1 ∨ n = 2 ∨ n = 3 ∨ n = 4 ∨ n = 5 ∨ n = 6 ∨ n = 7 ∨ n = 8 := by omega
  rcases this with rfl | rfl | rfl | rfl | rfl | rfl | rfl | rfl | rfl <;> rfl
theorem dcells_put2 (d : Nat → Nat → Int) (i j : Nat) (hi : i < 3) (hj : j < 3) : (dcells d (3 * i + j)).setIfInBounds (i * 3 + j) (.int .i64 (d i j)) = dcells d (3 * i + (j + 1)) := by
  have h := dcells_put d (3 * i + j) (by omega)
  rw [show (3 * i + j) / 3 = i from by omega, show (3 * i + j) % 3 = j from by omega] at h
  rw [show i * 3 + j = 3 * i + j from by omega, h]
  rfl
theorem dcells_at (d : Nat → Nat → Int) (n p : Nat) (hp : p < 9) : (dcells d n)[p]? = some (.int .i64 (if p < n then d (p / 3) (p % 3) else 0)) := by
  unfold dcells
  have : p = 0 ∨ p = 1 ∨ p = 2 ∨ p = 3 ∨ p = 4 ∨ p = 5 ∨ p = 6 ∨ p = 7 ∨ p = 8 := by omega
  rcases this with rfl | rfl | rfl | rfl | rfl | rfl | rfl | rfl | rfl <;> rfl
def BInv (w : World) (gL gD : Nat) (s0 s1 s2 : ByteArray) (d : Nat → Nat → Int) (n : Nat) (w' : World) : Prop := Below w.heap.size w w' ∧ w'.heap[gL]? = some (.cells #[.string s0, .string s1, .string s2] 46 (0, 0)) ∧ w'.heap[gD]? = some (.cells (dcells d n) 48 (0, 0))
theorem pick_cell {w : World} {g : Nat} {s0 s1 s2 : ByteArray} (h : w.heap[g]? = some (.cells #[.string s0, .string s1, .string s2] 46 (0, 0))) (i : Nat) (hi : i < 3) : w.cell? ⟨g, i, none⟩ = some (.string (pick3 s0 s1 s2 i)) := by
  rw [blk_cell h i]
  have : i = 0 ∨ i = 1 ∨ i = 2 := by omega
  rcases this with rfl | rfl | rfl <;> rfl

def mb.T9 : Bool × List (List Nat × List Nat) := (true, [([], []), ([0], [0]), ([1], [1]), ([], []), ([3], [3]), ([4], [4]), ([2, 5], [2, 5]), ([6], [6]), ([7], [7]), ([7], [7]), ([8, 6, 0, 1, 2, 3, 4, 5, 6, 7, 8], [8]), ([9, 10, 0, 1, 2, 3, 4, 5, 6, 7, 8, 9, 10], [9])])
def mb.B9 : List Nat := [0, 1, 3, 0, 8, 24, 63, 127, 255, 255, 511, 2047]
theorem mb.tab9 : rtab .any (opsOf Tryd.f8 9) = mb.T9 := by kernel_rfl
theorem mb.bits9 : waitsOk mb.T9.2 mb.B9 = true := by kernel_rfl
def mb.T10 : Bool × List (List Nat × List Nat) := (true, [([], []), ([0], [0]), ([1], [1]), ([], []), ([3], [3]), ([4], [4]), ([2, 5], [2, 5]), ([6], [6]), ([7], [7]), ([7], [7]), ([8, 6, 0, 1, 2, 3, 4, 5, 6, 7, 8], [8]), ([9, 10, 0, 1, 2, 3, 4, 5, 6, 7, 8, 9, 10], [9])])
def mb.B10 : List Nat := [0, 1, 3, 0, 8, 24, 63, 127, 255, 255, 511, 2047]
theorem mb.tab10 : rtab .any (opsOf Tryd.f8 10) = mb.T10 := by kernel_rfl
theorem mb.bits10 : waitsOk mb.T10.2 mb.B10 = true := by kernel_rfl
set_option maxHeartbeats 8000000 in
set_option maxRecDepth 100000 in
theorem between_calls (k : Nat) (A0 A1 A2 : Option Addr) (c0 c1 c2 : Nat) (l0 l1 l2 : List Int) (s0 s1 s2 : ByteArray) (d : Nat → Nat → Int) (c : Nat → Nat → ByteArray) (w : World) (hT : Lib.Utf8Tabs 0 1 w)
    (hr0 : Kd.C (Kd.int .u8) w A0 l0.length l0) (hc0 : l0.length ≤ c0) (hr1 : Kd.C (Kd.int .u8) w A1 l1.length l1) (hc1 : l1.length ≤ c1) (hr2 : Kd.C (Kd.int .u8) w A2 l2.length l2) (hc2 : l2.length ≤ c2)
    (e0 : Pa.pritchellaw09_word.f k l0 2 20 = some s0) (e1 : Pa.pritchellaw09_word.f k l1 2 20 = some s1) (e2 : Pa.pritchellaw09_word.f k l2 2 20 = some s2)
    (hd : ∀ i j, i < 3 → j < 3 → Pb.mark_Distance.f k (pick3 s0 s1 s2 i) (pick3 s0 s1 s2 j) = some (d i j, 0))
    (hcm : ∀ i j, i < 3 → j < 3 → Pb.mark_Common.f k (pick3 s0 s1 s2 i) (pick3 s0 s1 s2 j) = some (c i j, 0))
    (hv : ∀ i j, i < 3 → j < 3 → d i j = wrap64 (wrap64 (((pick3 s0 s1 s2 i).size : Int) + ((pick3 s0 s1 s2 j).size : Int)) - wrap64 (2 * ((c i j).size : Int))))
    (hz : ∀ i j, i < 3 → j < 3 → (d i j == 0) = ((pick3 s0 s1 s2 i).toList == (pick3 s0 s1 s2 j).toList))
    (htri : d 0 2 ≤ wrap64 (d 0 1 + d 1 2)) (hsym : d 0 1 = d 1 0) (hl : Pb.pritchellaw09_lives.f k = some true) :
    Calls Tryd.prog 8 #[.slice A0 l0.length c0, .slice A1 l1.length c1, .slice A2 l2.length c2] w fun e w' => e = .returned (.bool true) ∧ Below w.heap.size w w' := by
  have HB := Aside0.mk (Below.refl w.heap.size w)
  have HT := Aside0.mk hT
  have HR0 := Aside0.mk hr0
  have HR1 := Aside0.mk hr1
  have HR2 := Aside0.mk hr2
  have HC0 := Aside0.mk hc0
  have HC1 := Aside0.mk hc1
  have HC2 := Aside0.mk hc2
  have E0 := Aside0.mk e0
  have E1 := Aside0.mk e1
  have E2 := Aside0.mk e2
  have Ahd := Aside0.mk hd
  have Ahcm := Aside0.mk hcm
  have Ahv := Aside0.mk hv
  have Ahz := Aside0.mk hz
  have Ahtri := Aside0.mk htri
  have Ahsym := Aside0.mk hsym
  have Ahl := Aside0.mk hl
  clear hT hr0 hr1 hr2 hc0 hc1 hc2 e0 e1 e2 hd hcm hv hz htri hsym hl
  have hu46 := Tryd.underlying46
  have hu48 := Tryd.underlying48
  have hu47 := Tryd.underlying47
  go_enter Tryd.func8, Tryd.ntmps8
  go_wp2_with (first | ((with_reducible refine gate_callee (f := 20) rfl ?_); refine goesL_ (some 16) rfl rfl Tryd.func20 (by kernel_rfl) rfl #[.slice A0 l0.length c0, .int .i64 2, .int .i64 20] rfl (by (try simp only [List.map_toArray, List.map_cons, List.map_nil]); first | done | rfl) ?_; (with_reducible refine (Pa.pritchellaw09_word.calls k _ _ l0 2 20 s0 _ ?side1 ?side2 E0.out).mono ?_); (case side1 => repeat (first | exact HR0.out | (with_reducible refine Kd.C_alloc ?_ _) | (with_reducible refine Kd.C_drewN ?_ _) | (with_reducible refine Kd.C_drew ?_))); (case side2 => exact HC0.out); rintro e w' ⟨rfl, ⟨nd, rfl⟩⟩; refine ⟨_, rfl, ?_⟩) | ((with_reducible refine gate_callee (f := 20) rfl ?_); refine goesL_ (some 18) rfl rfl Tryd.func20 (by kernel_rfl) rfl #[.slice A1 l1.length c1, .int .i64 2, .int .i64 20] rfl (by (try simp only [List.map_toArray, List.map_cons, List.map_nil]); first | done | rfl) ?_; (with_reducible refine (Pa.pritchellaw09_word.calls k _ _ l1 2 20 s1 _ ?side1 ?side2 E1.out).mono ?_); (case side1 => repeat (first | exact HR1.out | (with_reducible refine Kd.C_alloc ?_ _) | (with_reducible refine Kd.C_drewN ?_ _) | (with_reducible refine Kd.C_drew ?_))); (case side2 => exact HC1.out); rintro e w' ⟨rfl, ⟨nd, rfl⟩⟩; refine ⟨_, rfl, ?_⟩) | ((with_reducible refine gate_callee (f := 20) rfl ?_); refine goesL_ (some 20) rfl rfl Tryd.func20 (by kernel_rfl) rfl #[.slice A2 l2.length c2, .int .i64 2, .int .i64 20] rfl (by (try simp only [List.map_toArray, List.map_cons, List.map_nil]); first | done | rfl) ?_; (with_reducible refine (Pa.pritchellaw09_word.calls k _ _ l2 2 20 s2 _ ?side1 ?side2 E2.out).mono ?_); (case side1 => repeat (first | exact HR2.out | (with_reducible refine Kd.C_alloc ?_ _) | (with_reducible refine Kd.C_drewN ?_ _) | (with_reducible refine Kd.C_drew ?_))); (case side2 => exact HC2.out); rintro e w' ⟨rfl, ⟨nd, rfl⟩⟩; refine ⟨_, rfl, ?_⟩) | ((with_reducible refine gate_dst (N := 7) rfl ?_); refine box_event ?hg (N := 7) ?hd (cs := #[.string ⟨#[]⟩, .string ⟨#[]⟩, .string ⟨#[]⟩]) (t := 46) ?hr ?_; (case hd => rfl); (case hg => rfl); (case hr => first | (go_simp; done) | (go_simp; rfl)); intro gL hgL wL hbox hb; have n0_ := Aside0.mk (below_step (by repeat (first | (with_reducible first | exact HB.out | apply below_alloc | apply pw_below_drewN | apply below_drew1) | exact HB.out | exact Below.refl _ _)) hb); have BL := Aside0.mk hbox; have GL := Aside0.mk (show w.heap.size ≤ gL by rw [hgL]; exact below_size (by repeat (first | (with_reducible first | exact HB.out | apply below_alloc | apply pw_below_drewN | apply below_drew1) | exact HB.out | exact Below.refl _ _))); clear HB; have HB := n0_; clear n0_; have hL0 := (blk_cell hbox 0).trans rfl; have hL1 := (blk_cell hbox 1).trans rfl; have hL2 := (blk_cell hbox 2).trans rfl; have hf0 := blk_frozen hbox 0; have hf1 := blk_frozen hbox 1; have hf2 := blk_frozen hbox 2; clear hb hbox hgL) | ((with_reducible refine gate_dst (N := 8) rfl ?_); refine box_event ?hg (N := 8) ?hd (cs := #[.int .i64 0, .int .i64 0, .int .i64 0, .int .i64 0, .int .i64 0, .int .i64 0, .int .i64 0, .int .i64 0, .int .i64 0]) (t := 48) ?hr ?_; (case hd => rfl); (case hg => rfl); (case hr => first | (go_simp; done) | (go_simp; rfl)); intro gD hgD wD hbox hb; have n1_ := blk_put (blk_put (blk_put BL.out 0 (.string s0) rfl) 1 (.string s1) rfl) 2 (.string s2) rfl; have n0_ := below_set (below_set (below_set HB.out GL.out (j := 0) (v := .string s0)) GL.out (j := 1) (v := .string s1)) GL.out (j := 2) (v := .string s2); have GD := Aside0.mk (show w.heap.size ≤ gD by rw [hgD]; exact below_size n0_); clear HB BL; have HB := Aside0.mk (below_step n0_ hb); have BL := Aside0.mk (blk_below n1_ hb); have BD := Aside0.mk hbox; clear n0_ n1_; have NE := Aside0.mk (blk_ne BL.out hbox (by decide)); clear hL0 hL1 hL2 hf0 hf1 hf2; have hD0 := (blk_cell hbox 0).trans rfl; have gf0 := blk_frozen hbox 0; have hD1 := (blk_cell hbox 1).trans rfl; have gf1 := blk_frozen hbox 1; have hD2 := (blk_cell hbox 2).trans rfl; have gf2 := blk_frozen hbox 2; have hD3 := (blk_cell hbox 3).trans rfl; have gf3 := blk_frozen hbox 3; have hD4 := (blk_cell hbox 4).trans rfl; have gf4 := blk_frozen hbox 4; have hD5 := (blk_cell hbox 5).trans rfl; have gf5 := blk_frozen hbox 5; have hD6 := (blk_cell hbox 6).trans rfl; have gf6 := blk_frozen hbox 6; have hD7 := (blk_cell hbox 7).trans rfl; have gf7 := blk_frozen hbox 7; have hD8 := (blk_cell hbox 8).trans rfl; have gf8 := blk_frozen hbox 8; clear hb hgD hbox))
  have n0_ := Aside0.mk (below_set (below_set (below_set (below_set (below_set (below_set (below_set (below_set (below_set HB.out GD.out (j := 0) (v := .int .i64 0)) GD.out (j := 1) (v := .int .i64 0)) GD.out (j := 2) (v := .int .i64 0)) GD.out (j := 3) (v := .int .i64 0)) GD.out (j := 4) (v := .int .i64 0)) GD.out (j := 5) (v := .int .i64 0)) GD.out (j := 6) (v := .int .i64 0)) GD.out (j := 7) (v := .int .i64 0)) GD.out (j := 8) (v := .int .i64 0))
  have n1_ := Aside0.mk (blk_far (blk_far (blk_far (blk_far (blk_far (blk_far (blk_far (blk_far (blk_far BL.out (p := ⟨gD, 0, none⟩) NE.out (.int .i64 0)) (p := ⟨gD, 1, none⟩) NE.out (.int .i64 0)) (p := ⟨gD, 2, none⟩) NE.out (.int .i64 0)) (p := ⟨gD, 3, none⟩) NE.out (.int .i64 0)) (p := ⟨gD, 4, none⟩) NE.out (.int .i64 0)) (p := ⟨gD, 5, none⟩) NE.out (.int .i64 0)) (p := ⟨gD, 6, none⟩) NE.out (.int .i64 0)) (p := ⟨gD, 7, none⟩) NE.out (.int .i64 0)) (p := ⟨gD, 8, none⟩) NE.out (.int .i64 0))
  have n2_ := Aside0.mk (blk_put (blk_put (blk_put (blk_put (blk_put (blk_put (blk_put (blk_put (blk_put BD.out 0 (.int .i64 0) rfl) 1 (.int .i64 0) rfl) 2 (.int .i64 0) rfl) 3 (.int .i64 0) rfl) 4 (.int .i64 0) rfl) 5 (.int .i64 0) rfl) 6 (.int .i64 0) rfl) 7 (.int .i64 0) rfl) 8 (.int .i64 0) rfl)
  clear hD0 gf0 hD1 gf1 hD2 gf2 hD3 gf3 hD4 gf4 hD5 gf5 hD6 gf6 hD7 gf7 hD8 gf8 HB BL BD
  have HB := n0_
  have BL := n1_
  have BD := n2_
  clear n0_ n1_ n2_
  go_loopg [9] 3 (fun kq v9 w' => ∃ i : Nat, v9 = .int .i64 (i : Int) ∧ Aside0 (i + kq = 3) ∧ Aside0 (BInv w gL gD s0 s1 s2 d (3 * i) w'))
  case atStart => exact ⟨0, rfl, ⟨rfl⟩, ⟨⟨HB.out, BL.out, BD.out⟩⟩⟩
  case round =>
    obtain ⟨i, rfl, HI, HV⟩ := hrel
    clear HB BL BD
    by_cases ci : i < 3
    · have ci1 : decide ((i : Int) < 3) = true := decide_eq_true (by omega)
      go_wp2
      repeat (go_quiet (fail); try go_wp2)
      go_loopg [10] 3 (fun kq v10 w' => ∃ j : Nat, v10 = .int .i64 (j : Int) ∧ Aside0 (j + kq = 3) ∧ Aside0 (BInv w gL gD s0 s1 s2 d (3 * i + j) w'))
      case atStart => exact ⟨0, rfl, ⟨rfl⟩, HV⟩
      case round =>
        obtain ⟨j, rfl, HJ, HW⟩ := hrel
        clear HV
        by_cases cj : j < 3
        · have cj1 : decide ((j : Int) < 3) = true := decide_eq_true (by omega)
          obtain ⟨HB, BL, BD⟩ : Aside0 (Below w.heap.size w wr) ∧ Aside0 (wr.heap[gL]? = some (.cells #[.string s0, .string s1, .string s2] 46 (0, 0))) ∧ Aside0 (wr.heap[gD]? = some (.cells (dcells d (3 * i + j)) 48 (0, 0))) := ⟨⟨HW.out.1⟩, ⟨HW.out.2.1⟩, ⟨HW.out.2.2⟩⟩
          clear HW
          have i3 : (i : Int) < 3 := by omega
          have j3 : (j : Int) < 3 := by omega
          go_wp2
          have n0_ := Aside0.mk (below_drew1 HB.out)
          have n1_ := Aside0.mk (blk_drew BL.out)
          have n2_ := Aside0.mk (blk_drew BD.out)
          clear HB BL BD
          have HB := n0_
          have BL := n1_
          have BD := n2_
          clear n0_ n1_ n2_
          refine start_ (n := 12) (S := fun w' => w'.cell? ⟨gL, i, none⟩ = some (.string (pick3 s0 s1 s2 i)) ∧ w'.cell? ⟨gL, j, none⟩ = some (.string (pick3 s0 s1 s2 j))) (ds := []) #[false, false, false, false, false, false, false, false, false, false, false, false] (by kernel_rfl) rfl rfl ⟨pick_cell BL.out i ci, pick_cell BL.out j cj⟩ (fun hHeld => ?_); refine with_tabW mb.tab9 mb.bits9 (fun HT_ HW_ => ?_)
          generalize wr.drew = w20 at HB BL BD hHeld ⊢
          refine pure_ (i := 0) (N := some 32) (v := ?_) (a' := ?_) #[true, false, false, false, false, false, false, false, false, false, false, false] rfl rfl (any_of HT_.out (by kernel_rfl)) (fun _ _ _ h => h) (Or.inl ⟨by rfl, ?_⟩) ?_ ?_
          rotate_left
          · intro w'
            go_simp
            with_reducible rfl
          rotate_left
          · simp only [Act.put, List.setIfInBounds_toArray, List.set_cons_zero, List.set_cons_succ, i64_w, i32_w]
            rfl
          refine pure_ (i := 1) (N := some 33) (v := ?_) (a' := ?_) #[true, true, false, false, false, false, false, false, false, false, false, false] rfl rfl (any_of HT_.out (by kernel_rfl)) (fun _ _ _ h => h) (Or.inl ⟨by rfl, ?_⟩) ?_ ?_
          rotate_left
          · intro w'
            go_simp
            with_reducible rfl
          rotate_left
          · simp only [Act.put, List.setIfInBounds_toArray, List.set_cons_zero, List.set_cons_succ, i64_w, i32_w]
            rfl
          refine take_ (i := 2) (N := some 34) (v := ?_) (a' := ?_) #[true, true, true, false, false, false, false, false, false, false, false, false] rfl rfl (take_ofW HT_.out HW_.out (by kernel_rfl)) (fun _ _ _ h => h) (Or.inl ⟨by rfl, ?_⟩) hHeld ?_ ?_
          rotate_left
          · intro w' s0_
            obtain ⟨s1_, s2_⟩ := s0_
            go_simp
            with_reducible rfl
          rotate_left
          · simp only [Act.put, List.setIfInBounds_toArray, List.set_cons_zero, List.set_cons_succ, i64_w, i32_w]
            rfl
          refine pure_ (i := 3) (N := some 35) (v := ?_) (a' := ?_) #[true, true, true, true, false, false, false, false, false, false, false, false] rfl rfl (any_of HT_.out (by kernel_rfl)) (fun _ _ _ h => h) (Or.inl ⟨by rfl, ?_⟩) ?_ ?_
          rotate_left
          · intro w'
            go_simp
            with_reducible rfl
          rotate_left
          · simp only [Act.put, List.setIfInBounds_toArray, List.set_cons_zero, List.set_cons_succ, i64_w, i32_w]
            rfl
          refine pure_ (i := 4) (N := some 36) (v := ?_) (a' := ?_) #[true, true, true, true, true, false, false, false, false, false, false, false] rfl rfl (any_of HT_.out (by kernel_rfl)) (fun _ _ _ h => h) (Or.inl ⟨by rfl, ?_⟩) ?_ ?_
          rotate_left
          · intro w'
            go_simp
            with_reducible rfl
          rotate_left
          · simp only [Act.put, List.setIfInBounds_toArray, List.set_cons_zero, List.set_cons_succ, i64_w, i32_w]
            rfl
          refine take_ (i := 5) (N := some 37) (v := ?_) (a' := ?_) #[true, true, true, true, true, true, false, false, false, false, false, false] rfl rfl (take_ofW HT_.out HW_.out (by kernel_rfl)) (fun _ _ _ h => h) (Or.inl ⟨by rfl, ?_⟩) hHeld ?_ ?_
          rotate_left
          · intro w' s0_
            obtain ⟨s1_, s2_⟩ := s0_
            go_simp
            with_reducible rfl
          rotate_left
          · simp only [Act.put, List.setIfInBounds_toArray, List.set_cons_zero, List.set_cons_succ, i64_w, i32_w]
            rfl
          refine one_ (i := 6) (N := some 38) #[true, true, true, true, true, true, true, false, false, false, false, false] rfl rfl (one_of HT_.out (by kernel_rfl)) (by decide) (fun K hK => ?_)
          refine goes_ Tryd.func26 (by kernel_rfl) rfl #[.string (pick3 s0 s1 s2 i), .string (pick3 s0 s1 s2 j)] (by rfl) rfl rfl (by (try simp only [List.map_toArray, List.map_cons, List.map_nil]); first | done | rfl) ?_
          with_reducible refine (Pb.mark_Distance.calls k (pick3 s0 s1 s2 i) (pick3 s0 s1 s2 j) (d i j) 0 _ ?side1 (Ahd.out i j ci cj)).mono ?_
          (case side1 => exact tabs_below HT.out (by repeat (first | (with_reducible first | exact HB.out | apply below_alloc | apply pw_below_drewN | apply below_drew1) | exact HB.out | exact Below.refl _ _)))
          rintro e w21 ⟨rfl, hb⟩
          refine ⟨_, rfl, ?_⟩
          have n0_ := Aside0.mk (below_step (by repeat (first | (with_reducible first | exact HB.out | apply below_alloc | apply pw_below_drewN | apply below_drew1) | exact HB.out | exact Below.refl _ _)) hb)
          have n1_ := Aside0.mk (blk_below BL.out hb)
          have n2_ := Aside0.mk (blk_below BD.out hb)
          clear HB BL BD
          have HB := n0_
          have BL := n1_
          have BD := n2_
          clear n0_ n1_ n2_ hb
          refine hK.out _ _ ⟨pick_cell BL.out i ci, pick_cell BL.out j cj⟩ (fun hHeld => ?_)
          clear hK K
          refine norm_ (a' := ?_) ?_ ?_
          rotate_left
          · show Act.put _ (some 38) _ = _
            simp only [Act.put, List.setIfInBounds_toArray, List.set_cons_zero, List.set_cons_succ, i64_w, i32_w]
            rfl
          refine pure_ (i := 7) (N := some 31) (v := ?_) (a' := ?_) #[true, true, true, true, true, true, true, true, false, false, false, false] rfl rfl (any_of HT_.out (by kernel_rfl)) (fun _ _ _ h => h) (Or.inl ⟨by rfl, ?_⟩) ?_ ?_
          rotate_left
          · intro w'
            go_simp
            with_reducible rfl
          rotate_left
          · simp only [Act.put, List.setIfInBounds_toArray, List.set_cons_zero, List.set_cons_succ, i64_w, i32_w]
            rfl
          refine pure_ (i := 8) (N := some 39) (v := ?_) (a' := ?_) #[true, true, true, true, true, true, true, true, true, false, false, false] rfl rfl (any_of HT_.out (by kernel_rfl)) (fun _ _ _ h => h) (Or.inl ⟨by rfl, ?_⟩) ?_ ?_
          rotate_left
          · intro w'
            go_simp
            with_reducible rfl
          rotate_left
          · simp only [Act.put, List.setIfInBounds_toArray, List.set_cons_zero, List.set_cons_succ, i64_w, i32_w]
            rfl
          refine pure_ (i := 9) (N := some 40) (v := ?_) (a' := ?_) #[true, true, true, true, true, true, true, true, true, true, false, false] rfl rfl (any_of HT_.out (by kernel_rfl)) (fun _ _ _ h => h) (Or.inl ⟨by rfl, ?_⟩) ?_ ?_
          rotate_left
          · intro w'
            go_simp
            with_reducible rfl
          rotate_left
          · simp only [Act.put, List.setIfInBounds_toArray, List.set_cons_zero, List.set_cons_succ, i64_w, i32_w]
            rfl
          refine pure_ (i := 10) (N := some 11) (v := ?_) (a' := ?_) #[true, true, true, true, true, true, true, true, true, true, true, false] rfl rfl (any_of HT_.out (by kernel_rfl)) (fun _ _ _ h => h) (Or.inl ⟨by rfl, ?_⟩) ?_ ?_
          rotate_left
          · intro w'
            go_simp
            with_reducible rfl
          rotate_left
          · simp only [Act.put, List.setIfInBounds_toArray, List.set_cons_zero, List.set_cons_succ, i64_w, i32_w]
            rfl
          refine pure_ (i := 11) (N := some 12) (v := ?_) (a' := ?_) #[true, true, true, true, true, true, true, true, true, true, true, true] rfl rfl (any_of HT_.out (by kernel_rfl)) (fun _ _ _ h => h) (Or.inl ⟨by rfl, ?_⟩) ?_ ?_
          rotate_left
          · intro w'
            go_simp
            with_reducible rfl
          rotate_left
          · simp only [Act.put, List.setIfInBounds_toArray, List.set_cons_zero, List.set_cons_succ, i64_w, i32_w]
            rfl
          refine done_ (done_of HT_.out (by kernel_rfl)) ?_
          go_wp2
          have n0_ := Aside0.mk (below_drew1 HB.out)
          have n1_ := Aside0.mk (blk_drew BL.out)
          have n2_ := Aside0.mk (blk_drew BD.out)
          clear HB BL BD
          have HB := n0_
          have BL := n1_
          have BD := n2_
          clear n0_ n1_ n2_
          refine start_ (n := 12) (S := fun w' => w'.cell? ⟨gL, i, none⟩ = some (.string (pick3 s0 s1 s2 i)) ∧ w'.cell? ⟨gL, j, none⟩ = some (.string (pick3 s0 s1 s2 j))) (ds := []) #[false, false, false, false, false, false, false, false, false, false, false, false] (by kernel_rfl) rfl rfl ⟨pick_cell BL.out i ci, pick_cell BL.out j cj⟩ (fun hHeld => ?_); refine with_tabW mb.tab10 mb.bits10 (fun HT_ HW_ => ?_)
          generalize w21.drew = w22 at HB BL BD hHeld ⊢
          refine pure_ (i := 0) (N := some 42) (v := ?_) (a' := ?_) #[true, false, false, false, false, false, false, false, false, false, false, false] rfl rfl (any_of HT_.out (by kernel_rfl)) (fun _ _ _ h => h) (Or.inl ⟨by rfl, ?_⟩) ?_ ?_
          rotate_left
          · intro w'
            go_simp
            with_reducible rfl
          rotate_left
          · simp only [Act.put, List.setIfInBounds_toArray, List.set_cons_zero, List.set_cons_succ, i64_w, i32_w]
            rfl
          refine pure_ (i := 1) (N := some 43) (v := ?_) (a' := ?_) #[true, true, false, false, false, false, false, false, false, false, false, false] rfl rfl (any_of HT_.out (by kernel_rfl)) (fun _ _ _ h => h) (Or.inl ⟨by rfl, ?_⟩) ?_ ?_
          rotate_left
          · intro w'
            go_simp
            with_reducible rfl
          rotate_left
          · simp only [Act.put, List.setIfInBounds_toArray, List.set_cons_zero, List.set_cons_succ, i64_w, i32_w]
            rfl
          refine take_ (i := 2) (N := some 44) (v := ?_) (a' := ?_) #[true, true, true, false, false, false, false, false, false, false, false, false] rfl rfl (take_ofW HT_.out HW_.out (by kernel_rfl)) (fun _ _ _ h => h) (Or.inl ⟨by rfl, ?_⟩) hHeld ?_ ?_
          rotate_left
          · intro w' s0_
            obtain ⟨s1_, s2_⟩ := s0_
            go_simp
            with_reducible rfl
          rotate_left
          · simp only [Act.put, List.setIfInBounds_toArray, List.set_cons_zero, List.set_cons_succ, i64_w, i32_w]
            rfl
          refine pure_ (i := 3) (N := some 45) (v := ?_) (a' := ?_) #[true, true, true, true, false, false, false, false, false, false, false, false] rfl rfl (any_of HT_.out (by kernel_rfl)) (fun _ _ _ h => h) (Or.inl ⟨by rfl, ?_⟩) ?_ ?_
          rotate_left
          · intro w'
            go_simp
            with_reducible rfl
          rotate_left
          · simp only [Act.put, List.setIfInBounds_toArray, List.set_cons_zero, List.set_cons_succ, i64_w, i32_w]
            rfl
          refine pure_ (i := 4) (N := some 46) (v := ?_) (a' := ?_) #[true, true, true, true, true, false, false, false, false, false, false, false] rfl rfl (any_of HT_.out (by kernel_rfl)) (fun _ _ _ h => h) (Or.inl ⟨by rfl, ?_⟩) ?_ ?_
          rotate_left
          · intro w'
            go_simp
            with_reducible rfl
          rotate_left
          · simp only [Act.put, List.setIfInBounds_toArray, List.set_cons_zero, List.set_cons_succ, i64_w, i32_w]
            rfl
          refine take_ (i := 5) (N := some 47) (v := ?_) (a' := ?_) #[true, true, true, true, true, true, false, false, false, false, false, false] rfl rfl (take_ofW HT_.out HW_.out (by kernel_rfl)) (fun _ _ _ h => h) (Or.inl ⟨by rfl, ?_⟩) hHeld ?_ ?_
          rotate_left
          · intro w' s0_
            obtain ⟨s1_, s2_⟩ := s0_
            go_simp
            with_reducible rfl
          rotate_left
          · simp only [Act.put, List.setIfInBounds_toArray, List.set_cons_zero, List.set_cons_succ, i64_w, i32_w]
            rfl
          refine one_ (i := 6) (N := some 48) #[true, true, true, true, true, true, true, false, false, false, false, false] rfl rfl (one_of HT_.out (by kernel_rfl)) (by decide) (fun K hK => ?_)
          refine goes_ Tryd.func21 (by kernel_rfl) rfl #[.string (pick3 s0 s1 s2 i), .string (pick3 s0 s1 s2 j)] (by rfl) rfl rfl (by (try simp only [List.map_toArray, List.map_cons, List.map_nil]); first | done | rfl) ?_
          with_reducible refine (Pb.mark_Common.calls k (pick3 s0 s1 s2 i) (pick3 s0 s1 s2 j) (c i j) 0 _ ?side1 (Ahcm.out i j ci cj)).mono ?_
          (case side1 => exact tabs_below HT.out (by repeat (first | (with_reducible first | exact HB.out | apply below_alloc | apply pw_below_drewN | apply below_drew1) | exact HB.out | exact Below.refl _ _)))
          rintro e w23 ⟨rfl, hb⟩
          refine ⟨_, rfl, ?_⟩
          have n0_ := Aside0.mk (below_step (by repeat (first | (with_reducible first | exact HB.out | apply below_alloc | apply pw_below_drewN | apply below_drew1) | exact HB.out | exact Below.refl _ _)) hb)
          have n1_ := Aside0.mk (blk_below BL.out hb)
          have n2_ := Aside0.mk (blk_below BD.out hb)
          clear HB BL BD
          have HB := n0_
          have BL := n1_
          have BD := n2_
          clear n0_ n1_ n2_ hb
          refine hK.out _ _ ⟨pick_cell BL.out i ci, pick_cell BL.out j cj⟩ (fun hHeld => ?_)
          clear hK K
          refine norm_ (a' := ?_) ?_ ?_
          rotate_left
          · show Act.put _ (some 48) _ = _
            simp only [Act.put, List.setIfInBounds_toArray, List.set_cons_zero, List.set_cons_succ, i64_w, i32_w]
            rfl
          refine pure_ (i := 7) (N := some 41) (v := ?_) (a' := ?_) #[true, true, true, true, true, true, true, true, false, false, false, false] rfl rfl (any_of HT_.out (by kernel_rfl)) (fun _ _ _ h => h) (Or.inl ⟨by rfl, ?_⟩) ?_ ?_
          rotate_left
          · intro w'
            go_simp
            with_reducible rfl
          rotate_left
          · simp only [Act.put, List.setIfInBounds_toArray, List.set_cons_zero, List.set_cons_succ, i64_w, i32_w]
            rfl
          refine pure_ (i := 8) (N := some 49) (v := ?_) (a' := ?_) #[true, true, true, true, true, true, true, true, true, false, false, false] rfl rfl (any_of HT_.out (by kernel_rfl)) (fun _ _ _ h => h) (Or.inl ⟨by rfl, ?_⟩) ?_ ?_
          rotate_left
          · intro w'
            go_simp
            with_reducible rfl
          rotate_left
          · simp only [Act.put, List.setIfInBounds_toArray, List.set_cons_zero, List.set_cons_succ, i64_w, i32_w]
            rfl
          refine pure_ (i := 9) (N := some 50) (v := ?_) (a' := ?_) #[true, true, true, true, true, true, true, true, true, true, false, false] rfl rfl (any_of HT_.out (by kernel_rfl)) (fun _ _ _ h => h) (Or.inl ⟨by rfl, ?_⟩) ?_ ?_
          rotate_left
          · intro w'
            go_simp
            with_reducible rfl
          rotate_left
          · simp only [Act.put, List.setIfInBounds_toArray, List.set_cons_zero, List.set_cons_succ, i64_w, i32_w]
            rfl
          refine pure_ (i := 10) (N := some 13) (v := ?_) (a' := ?_) #[true, true, true, true, true, true, true, true, true, true, true, false] rfl rfl (any_of HT_.out (by kernel_rfl)) (fun _ _ _ h => h) (Or.inl ⟨by rfl, ?_⟩) ?_ ?_
          rotate_left
          · intro w'
            go_simp
            with_reducible rfl
          rotate_left
          · simp only [Act.put, List.setIfInBounds_toArray, List.set_cons_zero, List.set_cons_succ, i64_w, i32_w]
            rfl
          refine pure_ (i := 11) (N := some 14) (v := ?_) (a' := ?_) #[true, true, true, true, true, true, true, true, true, true, true, true] rfl rfl (any_of HT_.out (by kernel_rfl)) (fun _ _ _ h => h) (Or.inl ⟨by rfl, ?_⟩) ?_ ?_
          rotate_left
          · intro w'
            go_simp
            with_reducible rfl
          rotate_left
          · simp only [Act.put, List.setIfInBounds_toArray, List.set_cons_zero, List.set_cons_succ, i64_w, i32_w]
            rfl
          refine done_ (done_of HT_.out (by kernel_rfl)) ?_
          have hc1 := pick_cell BL.out i ci
          have hc2 := pick_cell BL.out j cj
          have v0 := Ahv.out i j ci cj
          have v1 : (d i j == wrap64 (wrap64 (((pick3 s0 s1 s2 i).size : Int) + ((pick3 s0 s1 s2 j).size : Int)) - wrap64 (2 * ((c i j).size : Int)))) = true := beq_iff_eq.mpr v0
          have v2 : (d i j != wrap64 (wrap64 (((pick3 s0 s1 s2 i).size : Int) + ((pick3 s0 s1 s2 j).size : Int)) - wrap64 (2 * ((c i j).size : Int)))) = false := bne_eq_false_iff_eq.mpr v0
          clear v0
          have z1 := Ahz.out i j ci cj
          have hs1 : w23.cell? ⟨gD, i * 3 + j, none⟩ = some (.int .i64 0) := by rw [blk_cell BD.out, dcells_at d _ _ (by omega), if_neg (by omega)]
          have hs2 := blk_frozen BD.out (i * 3 + j)
          try go_wp2
          go_quiet (fail)
          go_wp2
          go_roundg (2 - j)
          case measure => have := HJ.out; omega
          case rel => exact ⟨j + 1, (by first | rfl | simp), ⟨by have := HJ.out; omega⟩, ⟨⟨below_set (by repeat (first | (with_reducible first | exact HB.out | apply below_alloc | apply pw_below_drewN | apply below_drew1) | exact HB.out)) GD.out, blk_far (by (with_reducible repeat (first | refine blk_drewN ?_ _ | refine blk_drew ?_)); exact BL.out) NE.out _, blk_put (by (with_reducible repeat (first | refine blk_drewN ?_ _ | refine blk_drew ?_)); exact BD.out) (i * 3 + j) _ (dcells_put2 d i j ci cj)⟩⟩⟩
        · have cj1 : decide ((j : Int) < 3) = false := decide_eq_false (by omega)
          obtain rfl : j = 3 := by have := HJ.out; omega
          go_wp2
          repeat (go_quiet (fail); try go_wp2)
          go_roundg (2 - i)
          case measure => have := HI.out; omega
          case rel => exact ⟨i + 1, (by first | rfl | simp), ⟨by have := HI.out; omega⟩, HW⟩
    · have ci1 : decide ((i : Int) < 3) = false := decide_eq_false (by omega)
      obtain rfl : i = 3 := by have := HI.out; omega
      have HB := Aside0.mk HV.out.1
      have g2 : wr.cell? ⟨gD, 2, none⟩ = some (.int .i64 (d 0 2)) := (blk_cell HV.out.2.2 2).trans rfl
      have g1 : wr.cell? ⟨gD, 1, none⟩ = some (.int .i64 (d 0 1)) := (blk_cell HV.out.2.2 1).trans rfl
      have g5 : wr.cell? ⟨gD, 5, none⟩ = some (.int .i64 (d 1 2)) := (blk_cell HV.out.2.2 5).trans rfl
      have g3 : wr.cell? ⟨gD, 3, none⟩ = some (.int .i64 (d 1 0)) := (blk_cell HV.out.2.2 3).trans rfl
      have t1 : decide (d 0 2 ≤ wrap64 (d 0 1 + d 1 2)) = true := decide_eq_true Ahtri.out
      have t1b := eq_true Ahtri.out
      have t2 : (d 0 1 == d 1 0) = true := beq_iff_eq.mpr Ahsym.out
      go_wp2_with (first | (go_at_call 19; (with_reducible refine (Pb.pritchellaw09_lives.calls k true _ ?side1 Ahl.out).mono ?_); (case side1 => exact tabs_below HT.out (by repeat (first | (with_reducible first | exact HB.out | apply below_alloc | apply pw_below_drewN | apply below_drew1) | exact HB.out))); rintro e w80 ⟨rfl, hb⟩; have n0_ := Aside0.mk (below_step (by repeat (first | (with_reducible first | exact HB.out | apply below_alloc | apply pw_below_drewN | apply below_drew1) | exact HB.out)) hb); clear HB; have HB := n0_; clear n0_; (try clear hb)))
      trace_state
      go_ret
      exact ⟨by first | rfl | (simp [*]; done), by repeat (first | (with_reducible first | exact HB.out | apply below_alloc | apply pw_below_drewN | apply below_drew1) | exact HB.out)⟩
/-- The plain statement of MarkBetween. -/
def pritchellaw09_MarkBetween.Pure : Prop := ∀ (l0 l1 l2 : List Int), (∀ x ∈ l0, (Lit.int .u8 x).wf = true) → (∀ x ∈ l1, (Lit.int .u8 x).wf = true) → (∀ x ∈ l2, (Lit.int .u8 x).wf = true) →
    ∃ (k : Nat) (s0 s1 s2 : ByteArray) (d : Nat → Nat → Int) (c : Nat → Nat → ByteArray), Pa.pritchellaw09_word.f k l0 2 20 = some s0 ∧ Pa.pritchellaw09_word.f k l1 2 20 = some s1 ∧ Pa.pritchellaw09_word.f k l2 2 20 = some s2 ∧
    (∀ i j, i < 3 → j < 3 → Pb.mark_Distance.f k (pick3 s0 s1 s2 i) (pick3 s0 s1 s2 j) = some (d i j, 0)) ∧ (∀ i j, i < 3 → j < 3 → Pb.mark_Common.f k (pick3 s0 s1 s2 i) (pick3 s0 s1 s2 j) = some (c i j, 0)) ∧
    (∀ i j, i < 3 → j < 3 → d i j = wrap64 (wrap64 (((pick3 s0 s1 s2 i).size : Int) + ((pick3 s0 s1 s2 j).size : Int)) - wrap64 (2 * ((c i j).size : Int)))) ∧
    (∀ i j, i < 3 → j < 3 → (d i j == 0) = ((pick3 s0 s1 s2 i).toList == (pick3 s0 s1 s2 j).toList)) ∧ d 0 2 ≤ wrap64 (d 0 1 + d 1 2) ∧ d 0 1 = d 1 0 ∧ Pb.pritchellaw09_lives.f k = some true
theorem pritchellaw09_MarkBetween.walk (P : pritchellaw09_MarkBetween.Pure) (a0 : Option Addr) (len0 cap0 : Nat) (z0 : List Int) (a1 : Option Addr) (len1 cap1 : Nat) (z1 : List Int) (a2 : Option Addr) (len2 cap2 : Nat) (z2 : List Int) (w : World) (w0 : (a0 = none ∧ len0 = 0 ∧ cap0 = 0 ∧ z0 = []) ∨ ∃ x, a0 = some x ∧ len0 ≤ cap0 ∧ cap0 ≤ maxLen ∧ z0.length = cap0 ∧ (∀ i, i < z0.length → w.cell? (x.add i) = some (.int .u8 (z0.getD i 0))) ∧ ∀ n ∈ z0, (Lit.int .u8 n).wf = true) (y0 : len0 * 1 ≤ 140737488351232) (w1 : (a1 = none ∧ len1 = 0 ∧ cap1 = 0 ∧ z1 = []) ∨ ∃ x, a1 = some x ∧ len1 ≤ cap1 ∧ cap1 ≤ maxLen ∧ z1.length = cap1 ∧ (∀ i, i < z1.length → w.cell? (x.add i) = some (.int .u8 (z1.getD i 0))) ∧ ∀ n ∈ z1, (Lit.int .u8 n).wf = true) (y1 : len1 * 1 ≤ 140737488351232) (w2 : (a2 = none ∧ len2 = 0 ∧ cap2 = 0 ∧ z2 = []) ∨ ∃ x, a2 = some x ∧ len2 ≤ cap2 ∧ cap2 ≤ maxLen ∧ z2.length = cap2 ∧ (∀ i, i < z2.length → w.cell? (x.add i) = some (.int .u8 (z2.getD i 0))) ∧ ∀ n ∈ z2, (Lit.int .u8 n).wf = true) (y2 : len2 * 1 ≤ 140737488351232) (hT : Lib.Utf8Tabs 0 1 w) :
    Calls Tryd.prog 8 #[.slice a0 len0 cap0, .slice a1 len1 cap1, .slice a2 len2 cap2] w fun e w' => e = .returned (.bool true) ∧ Below w.heap.size w w' := by
  obtain ⟨l0, rfl, hr0, hm0, hw0, hc0⟩ := ReadsInt.ofRowC w0
  obtain ⟨l1, rfl, hr1, hm1, hw1, hc1⟩ := ReadsInt.ofRowC w1
  obtain ⟨l2, rfl, hr2, hm2, hw2, hc2⟩ := ReadsInt.ofRowC w2
  obtain ⟨k, s0, s1, s2, d, c, e0, e1, e2, hd, hcm, hv, hz, htri, hsym, hl⟩ := P l0 l1 l2 hw0 hw1 hw2
  exact between_calls k _ _ _ _ _ _ l0 l1 l2 s0 s1 s2 d c w hT (Kd.C_of_reads (d := (0 : Int)) (h1 := fun _ => rfl) hr0) hc0 (Kd.C_of_reads (d := (0 : Int)) (h1 := fun _ => rfl) hr1) hc1 (Kd.C_of_reads (d := (0 : Int)) (h1 := fun _ => rfl) hr2) hc2 e0 e1 e2 hd hcm hv hz htri hsym hl
end Go.Proofs.YtopmcoohdhlnaaaDoor.E
