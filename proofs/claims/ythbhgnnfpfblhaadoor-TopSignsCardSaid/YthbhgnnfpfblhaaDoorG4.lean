/- The program's joined: words, written one after the other. -/
import Derived.Lib.Hide
import Derived.Test.YthbhgnnfpfblhaaDoorS
import Derived.Test.YthbhgnnfpfblhaaDoorWMore
namespace Go.Proofs.YthbhgnnfpfblhaaDoor.G
open Go.RowKit Go.Lib Go.Proofs.YthbhgnnfpfblhaaDoorW.PrintWords Go.Proofs.YthbhgnnfpfblhaaDoorW.PrintLast Go.Proofs.YthbhgnnfpfblhaaDoorW.PrintMore
set_option linter.unusedVariables false

/-- Words, one after the other. -/
def catB (l : List ByteArray) : ByteArray := ⟨(l.map (·.data.toList)).flatten.toArray⟩
theorem join_nil : ∀ l : List (List UInt8), Lib.join l [] = l.flatten
  | [] => rfl
  | [x] => by simp [Lib.join]
  | x :: y :: r => by
    have h := join_nil (y :: r)
    unfold Lib.join at h ⊢
    rw [List.intercalate_cons_cons]
    rw [h]
    simp
/-! ### mark_joined: function 56 -/
def mark_joined.f (l0 : List ByteArray) : Option ByteArray := if (catB l0).size ≤ 1000000 ∧ l0.length ≤ 1000000 then some (catB l0) else none

set_option maxHeartbeats 2000000 in
set_option maxRecDepth 100000 in
theorem mark_joined.calls (A0 : Option Addr) (c0 : Nat) (l0 : List ByteArray) (r : ByteArray) (w : World) (hr0 : Kd.C Kd.string w A0 l0.length l0) (hc0 : l0.length ≤ c0) (h : mark_joined.f l0 = some r) :
    Calls Tryd.prog 31 #[.slice A0 l0.length c0] w fun e w' => e = .returned (.string r) ∧ Below w.heap.size w w' := by
  unfold mark_joined.f at h
  split at h
  case isFalse => cases h
  case isTrue hg =>
  obtain ⟨hsz, hln⟩ := hg
  obtain rfl := Option.some.inj h
  have hl : (Lib.join (l0.map (·.data.toList)) []).length ≤ 140737488355328 := by
    rw [join_nil]
    have : (catB l0).size = (l0.map (·.data.toList)).flatten.length := by simp [catB, ByteArray.size]
    omega
  have hj : (⟨(Lib.join (l0.map (·.data.toList)) []).toArray⟩ : ByteArray) = catB l0 := by rw [join_nil]; rfl
  cases hnil : l0 with
  | nil =>
    go_enter Tryd.func31, Tryd.ntmps31
    go_wp2_with fail
    refine (Any.strings_Join_none Tryd.lays156 Tryd.Builder_Extra_156 A0 c0 ⟨#[]⟩ w).mono ?_
    rintro e w' ⟨rfl, rfl⟩
    go_wp2
    go_ret
    exact ⟨rfl, Below.refl _ _⟩
  | cons x rest =>
    rw [← hnil]
    have hpos : 0 < l0.length := by rw [hnil]; simp
    clear hnil
    obtain ⟨ad, e0, hx0⟩ := Kd.at_string hr0 0 (by omega) (by omega)
    subst e0
    obtain ⟨b, o, sp⟩ := ad
    have hsp : sp = none := by simpa [Addr.add] using World.cell?_spot hx0
    subst hsp
    have hb : b < w.heap.size := World.block_lt_of_cell? _ _ hx0
    have hcells : ∀ (j : Nat) x, l0[j]? = some x → w.cell? ⟨b, o + j, none⟩ = some (.string x) := by
      intro j x hj
      obtain ⟨hlt, rfl⟩ := List.getElem?_eq_some_iff.1 hj
      obtain ⟨ad, e1, hx⟩ := Kd.at_string hr0 (j : Int) (by omega) (by omega)
      cases e1
      have : rdOf ByteArray.empty l0 (j : Int) = l0[j] := by unfold rdOf; simp [hlt]
      rw [this] at hx
      rw [Int.toNat_natCast] at hx
      have e : (⟨b, o, none⟩ : Addr).add j = ⟨b, o + j, none⟩ := by
        unfold Addr.add
        split
        · subst_vars; rfl
        · rfl
      rwa [e] at hx
    have HC := Lib.hid hcells; clear hcells hr0 hx0
    have HJ := Lib.hid hj; clear hj
    have HL := Lib.hid hl; clear hl
    clear h
    go_enter Tryd.func31, Tryd.ntmps31
    go_wp2_with fail
    refine (Tryd.strings_Join b o c0 l0 ⟨#[]⟩ w HC.out hb (by omega) hc0 HL.out).mono ?_
    rintro e w' ⟨rfl, hb1⟩
    go_wp2
    go_ret
    exact ⟨by rw [← HJ.out]; rfl, hb1⟩
end Go.Proofs.YthbhgnnfpfblhaaDoor.G
