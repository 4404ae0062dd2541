/- An array of two whole numbers by value, as a parameter: opened and shut. -/
import Derived.Lib.SmallJoins
import Derived.OpenShut
namespace Go.Proofs.YtopmcoohdhlnaaaDoorW.Arr2
open Go.ChangeShapes Go.WideShapes Go.ChangeAt Go.RowKit Go.Joins
section
variable {H : Type} {enc : TypeId × Value → H} {P : Program} {w : World} {base : Nat} {spare : Nat → Bool} {held : Bool}
theorem open_arr2 {r : Reach} {b0 : Nat} {t e : TypeId} {v : Value} {d : DataW H} {p : List MemPlace} (hs : P.underlying t = some (.array 2 e)) (hce : P.cellsOf e = 1) (hC : P.cellsOf t = 2)
    (hv : Value.okWide P w r b0 t v) (h : DataW.Trod enc P w base spare held t v d p) :
    ∃ (v0 v1 : Value) (y0 y1 : DataW H × List MemPlace) (m : Nat), v = .agg #[v0, v1] ∧ d = .agg [y0.1, y1.1] ∧ p = y0.2 ++ y1.2 ∧ DataW.trod enc P w base spare held m e [v0] = some y0 ∧ DataW.trod enc P w base spare held m e [v1] = some y1 := by
  obtain ⟨cs, rfl, hsz, _⟩ : ∃ cs, v = .agg cs ∧ cs.size = P.cellsOf t ∧ Row.okWide P w r b0 t cs := by simpa [Value.okWide, hs] using hv
  obtain ⟨c0, c1, rfl⟩ := array2 (hsz.trans hC)
  obtain ⟨fuel, hf⟩ := h
  obtain ⟨xs, m, _, hx, _, hl, hat⟩ := DataW.trod_array hs hf
  obtain ⟨y0, y1, rfl⟩ : ∃ y0 y1, xs = [y0, y1] := by
    match xs, hl with
    | [a, b], _ => exact ⟨a, b, rfl⟩
  have h0 := hat 0 (by omega)
  have h1 := hat 1 (by omega)
  simp only [Prod.mk.injEq] at hx
  refine ⟨c0, c1, y0, y1, m, rfl, by simpa using hx.1, by simpa using hx.2, ?_, ?_⟩
  · simpa [Value.cells, hce] using h0
  · simpa [Value.cells, hce] using h1
theorem shut_arr2 {t e : TypeId} {k : IntKind} {n0 n1 : Int} (hs : P.underlying t = some (.array 2 e)) (he : P.underlying e = some (.int k)) (hce : P.cellsOf e = 1) (hC : P.cellsOf t = 2)
    (w0 : (Lit.int k n0).wf = true) (w1 : (Lit.int k n1).wf = true) :
    DataW.Trod enc P w base spare held t (.agg #[.int k n0, .int k n1]) (.agg [.lit (.int k n0), .lit (.int k n1)]) [] :=
  ⟨2, by simp [DataW.trod, Value.cells, hs, he, hce, hC, w0, w1, show List.range 2 = [0, 1] from rfl]⟩
end
end Go.Proofs.YtopmcoohdhlnaaaDoorW.Arr2
