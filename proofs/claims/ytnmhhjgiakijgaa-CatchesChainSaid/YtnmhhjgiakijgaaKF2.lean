/- How the laws' arguments are opened: payloads, pairs of truths. -/
import Derived.Test.YtnmhhjgiakijgaaKF0
namespace Go.Proofs.Ytnmhhjgiakijgaa
open Go.ChangeShapes Go.WideShapes Go.ChangeAt Go.RowKit

theorem bd_u32 {x : Int} (h : (Lit.int .u32 x).wf = true) : 0 ≤ x ∧ x < 4294967296 := by
  have : 0 ≤ x ∧ x ≤ 4294967295 := by simpa [Lit.wf, IntKind.min, IntKind.max, IntKind.signed, IntKind.bits] using h
  omega
theorem nat_u8 {x : Int} (h : (Lit.int .u8 x).wf = true) : ∃ n : Nat, x = n ∧ n ≤ 255 := by
  have := bd_u8 h
  exact ⟨x.toNat, by omega, by omega⟩
theorem nat_u32 {x : Int} (h : (Lit.int .u32 x).wf = true) : ∃ n : Nat, x = n ∧ n < 4294967296 := by
  have := bd_u32 h
  exact ⟨x.toNat, by omega, by omega⟩

section
variable {H : Type} {enc : TypeId × Value → H} {w : World} {base : Nat} {spare : Nat → Bool} {held : Bool} {r : Reach} {b0 : Nat} {v : Value} {d : DataW H} {ps : List MemPlace}

set_option maxRecDepth 100000 in
theorem payload_cells {fuel : Nat} {cs : List Value} {x : DataW H × List MemPlace} (h : DataW.trod enc Try.prog w base spare held fuel 82 cs = some x) :
    ∃ k s q z : Nat, cs = [.int .u8 k, .int .u8 s, .int .u32 q, .int .u32 z] ∧ k ≤ 255 ∧ s ≤ 255 ∧ q < 4294967296 ∧ z < 4294967296 := by
  obtain ⟨xs, m, _, _, hlen, hl, hi⟩ := DataW.trod_struct Try.underlying82 h
  have hc : Try.prog.cellsOf 82 = 4 := by kernel_rfl
  rw [hc] at hlen
  obtain ⟨a, b, c, e, rfl⟩ : ∃ a b c e, cs = [a, b, c, e] := by
    match cs, hlen with
    | [a, b, c, e], _ => exact ⟨a, b, c, e, rfl⟩
  have hl4 : xs.length = 4 := hl
  have c79 : Try.prog.cellsOf 79 = 1 := by kernel_rfl
  have c5 : Try.prog.cellsOf 5 = 1 := by kernel_rfl
  have c80 : Try.prog.cellsOf 80 = 1 := by kernel_rfl
  have h0 : DataW.trod enc Try.prog w base spare held m 79 (([a, b, c, e].drop 0).take (Try.prog.cellsOf 79)) = xs[0]? := hi 0 _ rfl
  have h1 : DataW.trod enc Try.prog w base spare held m 5 (([a, b, c, e].drop 1).take (Try.prog.cellsOf 5)) = xs[1]? := hi 1 _ rfl
  have h2 : DataW.trod enc Try.prog w base spare held m 80 (([a, b, c, e].drop 2).take (Try.prog.cellsOf 80)) = xs[2]? := hi 2 _ rfl
  have h3 : DataW.trod enc Try.prog w base spare held m 80 (([a, b, c, e].drop 3).take (Try.prog.cellsOf 80)) = xs[3]? := hi 3 _ rfl
  rw [c79] at h0
  rw [c5] at h1
  rw [c80] at h2 h3
  rw [List.getElem?_eq_getElem (by omega : 0 < xs.length)] at h0
  rw [List.getElem?_eq_getElem (by omega : 1 < xs.length)] at h1
  rw [List.getElem?_eq_getElem (by omega : 2 < xs.length)] at h2
  rw [List.getElem?_eq_getElem (by omega : 3 < xs.length)] at h3
  obtain ⟨k, hk, _, wk⟩ := DataW.trod_int Try.underlying79 h0
  obtain ⟨s, hs, _, ws⟩ := DataW.trod_int Try.underlying5 h1
  obtain ⟨q, hq, _, wq⟩ := DataW.trod_int Try.underlying80 h2
  obtain ⟨z, hz, _, wz⟩ := DataW.trod_int Try.underlying80 h3
  obtain ⟨k, rfl, lk⟩ := nat_u8 wk
  obtain ⟨s, rfl, ls⟩ := nat_u8 ws
  obtain ⟨q, rfl, lq⟩ := nat_u32 wq
  obtain ⟨z, rfl, lz⟩ := nat_u32 wz
  simp at hk hs hq hz
  exact ⟨k, s, q, z, by rw [hk, hs, hq, hz], lk, ls, lq, lz⟩
set_option maxRecDepth 100000 in
theorem open_payload (hv : Value.okWide Try.prog w r b0 82 v) (h : DataW.Trod enc Try.prog w base spare held 82 v d ps) :
    ∃ k s q z : Nat, v = .agg #[.int .u8 k, .int .u8 s, .int .u32 q, .int .u32 z] ∧ k ≤ 255 ∧ s ≤ 255 ∧ q < 4294967296 ∧ z < 4294967296 := by
  obtain ⟨cs, rfl, hs⟩ := okWide_struct Try.underlying82 hv
  obtain ⟨fuel, hf⟩ := h
  obtain ⟨k, s, q, z, hcs, r1⟩ := payload_cells hf
  refine ⟨k, s, q, z, ?_, r1⟩
  have : cs.toList = [.int .u8 k, .int .u8 s, .int .u32 q, .int .u32 z] := hcs
  obtain ⟨l⟩ := cs
  simp at this
  rw [this]

set_option maxRecDepth 100000 in
theorem open_bools (hv : Value.okWide Try.prog w r b0 83 v) (h : DataW.Trod enc Try.prog w base spare held 83 v d ps) :
    ∃ a b : Bool, v = .agg #[.bool a, .bool b] := by
  obtain ⟨cs, rfl, hs⟩ := okWide_array Try.underlying83 hv
  have hc2 : Try.prog.cellsOf 83 = 2 := by kernel_rfl
  have hc : Try.prog.cellsOf 4 = 1 := by kernel_rfl
  obtain ⟨a, b, rfl⟩ := arr2 (hs.trans hc2)
  obtain ⟨fuel, hf⟩ := h
  obtain ⟨xs, m, _, _, _, hl, hi⟩ := DataW.trod_array Try.underlying83 hf
  have h0 := hi 0 (by omega)
  have h1 := hi 1 (by omega)
  rw [hc] at h0 h1
  rw [List.getElem?_eq_getElem (by omega : 0 < xs.length)] at h0
  rw [List.getElem?_eq_getElem (by omega : 1 < xs.length)] at h1
  obtain ⟨x, hx, _⟩ := DataW.trod_bool Try.underlying4 h0
  obtain ⟨y, hy, _⟩ := DataW.trod_bool Try.underlying4 h1
  simp [Value.cells] at hx hy
  exact ⟨x, y, by rw [hx, hy]⟩
end
end Go.Proofs.Ytnmhhjgiakijgaa
