/- How the laws' arguments are opened: an array of four numbers. -/
import Derived.Test.YtnmhhjgiakijgaaKF2
namespace Go.Proofs.Ytnmhhjgiakijgaa
open Go.ChangeShapes Go.WideShapes Go.ChangeAt Go.RowKit

section
variable {P : Program} {H : Type} {enc : TypeId × Value → H} {w : World} {base : Nat} {spare : Nat → Bool} {held : Bool} {r : Reach} {b0 : Nat} {t e : TypeId} {v : Value} {d : DataW H} {ps : List MemPlace}
/-- an array of four numbers -/
theorem open_four {k : IntKind} (ht : P.underlying t = some (.array 4 e)) (he : P.underlying e = some (.int k)) (hc : P.cellsOf e = 1) (hc2 : P.cellsOf t = 4) (hv : Value.okWide P w r b0 t v) (h : DataW.Trod enc P w base spare held t v d ps) :
    ∃ x y z u, v = .agg #[.int k x, .int k y, .int k z, .int k u] ∧ (Lit.int k x).wf = true ∧ (Lit.int k y).wf = true ∧ (Lit.int k z).wf = true ∧ (Lit.int k u).wf = true := by
  obtain ⟨cs, rfl, hs⟩ := okWide_array ht hv
  obtain ⟨a, b, c, g, rfl⟩ := arr4 (hs.trans hc2)
  obtain ⟨fuel, hf⟩ := h
  obtain ⟨xs, m, _, _, _, hl, hi⟩ := DataW.trod_array ht hf
  have h0 := hi 0 (by omega)
  have h1 := hi 1 (by omega)
  have h2 := hi 2 (by omega)
  have h3 := hi 3 (by omega)
  rw [hc] at h0 h1 h2 h3
  rw [List.getElem?_eq_getElem (by omega : 0 < xs.length)] at h0
  rw [List.getElem?_eq_getElem (by omega : 1 < xs.length)] at h1
  rw [List.getElem?_eq_getElem (by omega : 2 < xs.length)] at h2
  rw [List.getElem?_eq_getElem (by omega : 3 < xs.length)] at h3
  obtain ⟨x, hx, _, wx⟩ := DataW.trod_int he h0
  obtain ⟨y, hy, _, wy⟩ := DataW.trod_int he h1
  obtain ⟨z, hz, _, wz⟩ := DataW.trod_int he h2
  obtain ⟨u, hu, _, wu⟩ := DataW.trod_int he h3
  simp [Value.cells] at hx hy hz hu
  exact ⟨x, y, z, u, by rw [hx, hy, hz, hu], wx, wy, wz, wu⟩
end
end Go.Proofs.Ytnmhhjgiakijgaa
