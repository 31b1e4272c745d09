/- How the laws' arguments are opened: two payloads. -/
import Derived.Test.YtnmhhjgiakijgaaF2
namespace Go.Proofs.Ytnmhhjgiakijgaa
open Go.ChangeShapes Go.WideShapes Go.ChangeAt Go.RowKit
section
variable {H : Type} {enc : TypeId × Value → H} {w : World} {base : Nat} {spare : Nat → Bool} {held : Bool} {r : Reach} {b0 : Nat} {v : Value} {d : DataW H} {ps : List MemPlace}
set_option maxRecDepth 100000 in
theorem open_payloads (hv : Value.okWide Try.prog w r b0 119 v) (h : DataW.Trod enc Try.prog w base spare held 119 v d ps) :
    ∃ k s q z k' s' q' z' : Nat, v = .agg #[.int .u8 k, .int .u8 s, .int .u32 q, .int .u32 z, .int .u8 k', .int .u8 s', .int .u32 q', .int .u32 z'] ∧ s ≤ 255 ∧ q < 4294967296 ∧ z < 4294967296 ∧ s' ≤ 255 ∧ q' < 4294967296 ∧ z' < 4294967296 := by
  obtain ⟨cs, rfl, hs⟩ := okWide_array Try.underlying119 hv
  have hc2 : Try.prog.cellsOf 119 = 8 := by kernel_rfl
  have hc : Try.prog.cellsOf 82 = 4 := by kernel_rfl
  have hsz : cs.size = 8 := hs.trans hc2
  obtain ⟨fuel, hf⟩ := h
  obtain ⟨xs, m, _, _, _, hl, hi⟩ := DataW.trod_array Try.underlying119 hf
  have h0 := hi 0 (by omega)
  have h1 := hi 1 (by omega)
  rw [hc] at h0 h1
  rw [List.getElem?_eq_getElem (by omega : 0 < xs.length)] at h0
  rw [List.getElem?_eq_getElem (by omega : 1 < xs.length)] at h1
  obtain ⟨k, s, q, z, e0, -, ls, lq, lz⟩ := payload_cells h0
  obtain ⟨k', s', q', z', e1, -, ls', lq', lz'⟩ := payload_cells h1
  obtain ⟨l⟩ := cs
  match l, hsz with
  | [a0, a1, a2, a3, a4, a5, a6, a7], _ =>
    simp [Value.cells] at e0 e1
    obtain ⟨rfl, rfl, rfl, rfl⟩ := e0
    obtain ⟨rfl, rfl, rfl, rfl⟩ := e1
    exact ⟨k, s, q, z, k', s', q', z', rfl, ls, lq, lz, ls', lq', lz'⟩
end
end Go.Proofs.Ytnmhhjgiakijgaa
