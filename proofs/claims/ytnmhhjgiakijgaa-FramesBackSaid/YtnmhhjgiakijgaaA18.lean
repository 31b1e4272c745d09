/- sums.Of: the sum of parts. -/
import Derived.Test.YtnmhhjgiakijgaaA17
namespace Go.Proofs.Ytnmhhjgiakijgaa
open Go.RowKit
set_option linter.unusedVariables false

/-- a slice of slices of bytes, as lists -/
def Parts (w : World) (A : Option Addr) (n : Nat) (ps : List (List Int)) : Prop :=
  ps.length = n ∧ ∀ i, i < n → ∃ b o D m d, A = some ⟨b, o, none⟩ ∧ b < w.heap.size ∧ w.cell? ⟨b, o + i, none⟩ = some (.slice D m d) ∧ m ≤ d ∧ m ≤ 60000 ∧ Rd w .u8 D m (ps.getD i []) ∧ bytesOk (ps.getD i [])
theorem Parts.below {w w' : World} {A : Option Addr} {n : Nat} {ps : List (List Int)} (h : Parts w A n ps) (hb : Below w.heap.size w w') : Parts w' A n ps :=
  ⟨h.1, fun i hi => by
    obtain ⟨b, o, D, m, d, h1, h2, h3, h4, h5, h6, h7⟩ := h.2 i hi
    exact ⟨b, o, D, m, d, h1, Nat.lt_of_lt_of_le h2 hb.size, (hb.cell (p := ⟨b, o + i, none⟩) h2).trans h3, h4, h5, h6.below hb, h7⟩⟩
theorem flat_take (ps : List (List Int)) (i : Nat) (hi : i < ps.length) : (ps.take (i + 1)).flatten = (ps.take i).flatten ++ ps.getD i [] := by
  rw [List.take_succ_eq_append_getElem hi, List.flatten_append]
  simp [List.getD_eq_getElem?_getD, List.getElem?_eq_getElem hi]

set_option maxHeartbeats 1600000 in
set_option maxRecDepth 20000 in
theorem sumof_calls (A : Option Addr) (n c : Nat) (ps : List (List Int)) (w : World) (h : Parts w A n ps) (hn : n ≤ 100) (hc : n ≤ c) :
    Calls Try.prog 162 #[.slice A n c] w fun e w' => e = .returned (.int .u32 (sumL ps.flatten)) ∧ Below w.heap.size w w' := by
  have H := Lib.hid h
  have HL := Lib.hid h.1
  clear h
  go_enter Try.func162, Try.ntmps162
  go_wp2
  go_loopw [12] (fun v w' => ∃ i r : Nat, i ≤ n ∧ v = .int .i64 i ∧ r < 4294967296 ∧ Hid (r = regL 4294967295 (ps.take i).flatten) ∧ Reg w' w.heap.size r ∧ Below w.heap.size w w') (fun v _ => n - (intOf v).toNat)
  case atStart => exact ⟨0, 4294967295, Nat.zero_le _, rfl, by decide, Lib.hid rfl, heap_alloc_new w _, (by repeat (first | exact Below.refl _ _ | apply Bw.alloc | apply Bw.drewN | apply Bw.drew | (refine Bw.step ?_ (by assumption))))⟩
  case round =>
    obtain ⟨i, r, hi, rfl, hrl, HR, hreg, hb⟩ := hrel
    by_cases hlt : i < n
    · obtain ⟨b, o, D, m, d, rfl, hblt, hcell0, hmd, hm6, hrd, hby⟩ := H.out.2 i hlt
      have hcell := (hb.cell (p := ⟨b, o + i, none⟩) hblt).trans hcell0
      obtain ⟨xs, hxs⟩ : ∃ xs, xs = ps.getD i [] := ⟨_, rfl⟩
      rw [← hxs] at hrd hby
      have HX := Lib.hid hxs
      have HRD := Lib.hid hrd
      have HXL := Lib.hid hrd.len
      have HBY := Lib.hid hby
      have HB := Lib.hid hb
      have HREG := Lib.hid hreg
      have HRL := Lib.hid hrl
      clear hxs hrd hby hb hblt hcell0 hreg hrl
      go_wp2
      go_loopw [18] (fun v w' => ∃ j r : Nat, j ≤ m ∧ v = .int .i64 j ∧ r < 4294967296 ∧ Hid (r = regL 4294967295 ((ps.take i).flatten ++ xs.take j)) ∧ Reg w' w.heap.size r ∧ Below w.heap.size w w') (fun v _ => m - (intOf v).toNat)
      case atStart => exact ⟨0, r, Nat.zero_le _, rfl, HRL.out, Lib.hid (by rw [List.take_zero, List.append_nil]; exact HR.out), HREG.out, HB.out⟩
      case round =>
        clear HB hcell HREG HRL HR
        obtain ⟨j, r, hj, rfl, hrl, HR2, hreg, hb⟩ := hrel
        have HREG := Lib.hid hreg
        have HRL := Lib.hid hrl
        have HB := Lib.hid hb
        clear hrl hreg hb
        by_cases hjl : j < m
        · obtain ⟨b2, o2, rfl, hcj⟩ := (HRD.out.below HB.out).at_ j hjl
          have hbb := bytesOk_gt HBY.out (j := j) (by rw [HXL.out]; exact hjl)
          obtain ⟨x, hx⟩ : ∃ x : Nat, gt xs j = x := ⟨(gt xs j).toNat, by omega⟩
          have HTK := Lib.hid (take_snoc xs j (by rw [HXL.out]; exact hjl))
          rw [hx] at hcj hbb
          have HXJ := Lib.hid hx
          have hx255 : x ≤ 255 := by omega
          clear hx hbb
          go_wp2_with (go_at_call 178; refine (add_calls w.heap.size r x _ HREG.out HRL.out hx255).mono ?_; rintro e w2 ⟨rfl, hreg2, hb2⟩)
          go_roundw
          case rel => exact ⟨j + 1, regByte r x, by omega, by go_num, regByte_lt _ _ HRL.out hx255, Lib.hid (by rw [HTK.out, ← List.append_assoc, regL_append, ← HR2.out, HXJ.out]; rfl), hreg2, HB.out.trans hb2⟩
          case measure => simp [intOf]; omega
        · have hjm : j = m := by omega
          subst hjm
          have HFT := Lib.hid (flat_take ps i (by rw [HL.out]; exact hlt))
          go_wp2
          go_roundw
          case rel => exact ⟨i + 1, r, by omega, by go_num, HRL.out, Lib.hid (by rw [HFT.out, ← HX.out, HR2.out, show xs.take j = xs from List.take_of_length_le (by rw [HXL.out]; exact Nat.le_refl _)]), HREG.out, HB.out⟩
          case measure => simp [intOf]; omega
    · have hin : n = i := by omega
      subst hin
      have c0 := hreg.cell
      have hs : sumL ps.flatten = 4294967295 ^^^ r := by unfold sumL; rw [HR.out, List.take_of_length_le (by rw [HL.out]; exact Nat.le_refl _)]
      have HS := Lib.hid hs
      have HB := Lib.hid hb
      have hmx : bits .xor .u32 IntKind.u32.max (r : Int) = ((4294967295 ^^^ r : Nat) : Int) := bits_xor_u32 4294967295 r (by decide) hrl
      have HMX := Lib.hid hmx
      clear hs hb hreg hmx
      go_wp2
      go_ret
      exact ⟨by rw [HS.out, ← HMX.out]; rfl, HB.out⟩
end Go.Proofs.Ytnmhhjgiakijgaa
