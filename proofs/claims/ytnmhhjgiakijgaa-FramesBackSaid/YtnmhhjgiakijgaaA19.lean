/- slices.Grow of nothing; slices.Concat: bytes and symbols. -/
import Derived.Test.YtnmhhjgiakijgaaA18
import Derived.Lib.AppendZerosOnto
namespace Go.Proofs.Ytnmhhjgiakijgaa
open Go.RowKit
set_option linter.unusedVariables false

theorem run_grow177 (n : Nat) (w : World) (hn : 0 < n) (h6 : n ≤ 60000) : ∀ ty, (Builtin.append_ #[43, 3] ty #[.slice none 0 0, .int .i64 n]).run Try.prog w =
    .ok (.slice (some ⟨w.heap.size, 0, none⟩) n (grownCap w n 0 5)) (w.drew.alloc (.cells (Builtin.zeroCells (Value.int .u8 0).cells n ++ Builtin.zeroCells (Value.int .u8 0).cells (grownCap w n 0 5 - n)) 5)) := by
  intro ty
  obtain ⟨i0, hi, hz, hs, hb⟩ := info_parts info5
  have h := Lib.run_append_grow_zeros (P := Try.prog) w 43 3 ty 5 i0 (.int .u8 0) .i64 .i64 Try.underlying43 Try.underlying3 hi hz none 0 0 [] (by simp [Builtin.firstCells]) n hn (by omega) (by omega) (by omega) (by rw [hb]; omega) (by rw [hb]; exact growslice_fits (by omega) (by omega))
  simpa using h

set_option maxHeartbeats 800000 in
set_option maxRecDepth 20000 in
theorem grow177_calls (n : Nat) (w : World) (h6 : n ≤ 60000) :
    Calls Try.prog 177 #[.slice none 0 0, .int .i64 n] w fun e w' => ∃ A c, e = .returned (.slice A 0 c) ∧ Mn w' w.heap.size 5 1 (.slice A 0 c) 0 [] ∧ Below w.heap.size w w' := by
  by_cases h0 : n = 0
  · subst h0
    go_enter Try.func177, Try.ntmps177
    go_wp2
    go_ret
    exact ⟨none, 0, rfl, Mn.nil _ _ _ _, Below.refl _ _⟩
  · have hn : 0 < n := by omega
    have hrz := run_grow177 n w hn h6
    have hcm := grownCap_le_maxLen w n 0 5 (by simp only [maxLen]; omega)
    have hcn := grownCap_ge w n 0 5
    obtain ⟨cp, hcp⟩ : ∃ cp, grownCap w n 0 5 = cp := ⟨_, rfl⟩
    rw [hcp] at hrz hcm hcn
    have HCM := Lib.hid hcm
    clear hcm hcp
    go_enter Try.func177, Try.ntmps177
    go_wp2_with (at_builtin; refine Lib.wpList_append_run _ rfl _ _ _ _ rfl _ _ rfl rfl _ _ (hrz _) ?_)
    all_goals
      go_ret
      refine ⟨some ⟨w.heap.size, 0, none⟩, cp, rfl, ⟨rfl, .inr ⟨w.heap.size, cp, _, rfl, Nat.le_refl _, heap_alloc_new w.drew _, Nat.zero_le _, HCM.out, ?_, ?_⟩⟩, Bw.alloc (Bw.drew (Below.refl _ _)) _⟩
      · simp only [Array.size_append, size_zeroCells]
        show cp * 1 ≤ n * 1 + (cp - n) * 1
        omega
      · rw [Nat.zero_mul]; rfl

set_option maxHeartbeats 1600000 in
set_option maxRecDepth 20000 in
theorem concat161_calls (A : Option Addr) (n c : Nat) (ps : List (List Int)) (w : World) (h : Parts w A n ps) (hn : n ≤ 100) (hc : n ≤ c) (hs : ps.flatten.length ≤ 60000) :
    Calls Try.prog 161 #[.slice A n c] w fun e w' => ∃ A' m c', e = .returned (.slice A' m c') ∧ m = ps.flatten.length ∧ m ≤ c' ∧ Mn w' w.heap.size 5 1 (.slice A' m c') m (nums .u8 ps.flatten) ∧ Below w.heap.size w w' := by
  have H := Lib.hid h
  have HL := Lib.hid h.1
  have HS := Lib.hid hs
  clear h hs
  go_enter Try.func161, Try.ntmps161
  go_wp2
  go_loop [3, 11] (fun u v => ∃ i l : Nat, i ≤ n ∧ v = .int .i64 i ∧ u = .int .i64 l ∧ l ≤ 60000 ∧ Hid (l = (ps.take i).flatten.length)) (fun _ v => n - (intOf v).toNat)
  case atStart => exact ⟨0, 0, Nat.zero_le _, rfl, rfl, Nat.zero_le _, Lib.hid rfl⟩
  case round =>
    obtain ⟨i, l, hi, rfl, rfl, hl, HLL⟩ := hrel
    by_cases hlt : i < n
    · obtain ⟨b, o, D, m, d, rfl, -, hcell, hmd, hm6, hrd, -⟩ := H.out.2 i hlt
      have hlen : l + m = (ps.take (i + 1)).flatten.length := by rw [flat_take ps i (by rw [HL.out]; exact hlt), List.length_append, ← HLL.out, hrd.len]
      have hle : l + m ≤ 60000 := by
        rw [hlen]
        refine Nat.le_trans ?_ HS.out
        conv => rhs; rw [← List.take_append_drop (i + 1) ps]
        rw [List.flatten_append, List.length_append]
        omega
      have HLEN := Lib.hid hlen
      clear hlen hrd
      go_wp2
      go_round
      case rel => exact ⟨i + 1, l + m, by omega, by go_num, by go_num, hle, HLEN⟩
      case measure => simp [intOf]; omega
    · have hin : n = i := by omega
      subst hin
      have HFL := Lib.hid (show l = ps.flatten.length by rw [HLL.out, List.take_of_length_le (by rw [HL.out]; exact Nat.le_refl _)])
      clear HLL
      go_wp2_with (go_at_call 177; refine (grow177_calls l _ hl).mono ?_; rintro e w1 ⟨A1, c1, rfl, hm1, hb1⟩)
      go_loopw [6, 27] (fun u v w' => ∃ (i k : Nat) (A' : Option Addr) (c' : Nat), i ≤ n ∧ v = .int .i64 i ∧ u = .slice A' k c' ∧ k ≤ 60000 ∧ k ≤ c' ∧ Hid (k = (ps.take i).flatten.length) ∧ Mn w' w.heap.size 5 1 (.slice A' k c') k (nums .u8 (ps.take i).flatten) ∧ Below w.heap.size w w') (fun _ v _ => n - (intOf v).toNat)
      case atStart => exact ⟨0, 0, A1, c1, Nat.zero_le _, rfl, rfl, Nat.zero_le _, Nat.zero_le _, Lib.hid rfl, hm1, hb1⟩
      case round =>
        clear hm1 hb1
        obtain ⟨i, k, A2, c2, hi, rfl, rfl, hk, hkc, HK, hmn, hb⟩ := hrel
        by_cases hlt : i < n
        · obtain ⟨b, o, D, m, d, rfl, hblt, hcell0, hmd, hm6, hrd, -⟩ := H.out.2 i hlt
          have hcell := (hb.cell (p := ⟨b, o + i, none⟩) hblt).trans hcell0
          have hft := flat_take ps i (by rw [HL.out]; exact hlt)
          have hlen : k + m = (ps.take (i + 1)).flatten.length := by rw [hft, List.length_append, ← HK.out, hrd.len]
          have hle : k + m ≤ 60000 := by
            rw [hlen]
            refine Nat.le_trans ?_ HS.out
            conv => rhs; rw [← List.take_append_drop (i + 1) ps]
            rw [List.flatten_append, List.length_append]
            omega
          have HLEN := Lib.hid hlen
          have HFT := Lib.hid hft
          have HRD := Lib.hid (hrd.below hb)
          clear hlen hrd hft hblt hcell0
          go_wp2_with (at_builtin
                       refine wpList_append_mn _ rfl _ _ _ rfl w.heap.size 5 _ 1 1 Try.underlying43 info5 rfl (by omega) (.slice A2 k c2) k (nums .u8 (ps.take i).flatten) rfl hmn D m d (nums .u8 (ps.getD i [])) rfl (by rw [Nat.mul_one]; exact HRD.out) (nums_one _ _) (by omega) (by omega) hb.size ?_
                       intro A3 c3 w3 hc3 hm3 hg3 hat3
                       have hm4 : Mn w3 w.heap.size 5 1 (.slice A3 (k + m) c3) (k + m) (nums .u8 (ps.take (i + 1)).flatten) := by rw [HFT.out, nums_append]; exact hm3
                       have hb4 : Below w.heap.size w w3 := Below.grown hb hg3 hb.size (fun q hq => (hmn.block hq).1)
                       clear hg3 hat3 hm3 hmn hb HRD)
          go_roundw
          case rel => exact ⟨i + 1, k + m, A3, c3, by omega, by go_num, rfl, hle, hc3, HLEN, hm4, hb4⟩
          case measure => simp [intOf]; omega
        · have hin : n = i := by omega
          subst hin
          have hfl : (ps.take n).flatten = ps.flatten := by rw [List.take_of_length_le (by rw [HL.out]; exact Nat.le_refl _)]
          rw [hfl] at hmn
          have HKF := Lib.hid (HK.out.trans (by rw [hfl]))
          clear hfl
          go_wp2
          go_ret
          exact ⟨A2, k, c2, rfl, HKF.out, hkc, hmn, hb⟩
theorem run_grow164 (n : Nat) (w : World) (hn : 0 < n) (h6 : n ≤ 60000) : ∀ ty, (Builtin.append_ #[22, 3] ty #[.slice none 0 0, .int .i64 n]).run Try.prog w =
    .ok (.slice (some ⟨w.heap.size, 0, none⟩) n (grownCap w n 0 50)) (w.drew.alloc (.cells (Builtin.zeroCells (Value.int .u8 0).cells n ++ Builtin.zeroCells (Value.int .u8 0).cells (grownCap w n 0 50 - n)) 50)) := by
  intro ty
  obtain ⟨i0, hi, hz, hs, hb⟩ := info_parts info50
  have h := Lib.run_append_grow_zeros (P := Try.prog) w 22 3 ty 50 i0 (.int .u8 0) .i64 .i64 Try.underlying22 Try.underlying3 hi hz none 0 0 [] (by simp [Builtin.firstCells]) n hn (by omega) (by omega) (by omega) (by rw [hb]; omega) (by rw [hb]; exact growslice_fits (by omega) (by omega))
  simpa using h

set_option maxHeartbeats 800000 in
set_option maxRecDepth 20000 in
theorem grow164_calls (n : Nat) (w : World) (h6 : n ≤ 60000) :
    Calls Try.prog 164 #[.slice none 0 0, .int .i64 n] w fun e w' => ∃ A c, e = .returned (.slice A 0 c) ∧ Mn w' w.heap.size 50 1 (.slice A 0 c) 0 [] ∧ Below w.heap.size w w' := by
  by_cases h0 : n = 0
  · subst h0
    go_enter Try.func164, Try.ntmps164
    go_wp2
    go_ret
    exact ⟨none, 0, rfl, Mn.nil _ _ _ _, Below.refl _ _⟩
  · have hn : 0 < n := by omega
    have hrz := run_grow164 n w hn h6
    have hcm := grownCap_le_maxLen w n 0 50 (by simp only [maxLen]; omega)
    have hcn := grownCap_ge w n 0 50
    obtain ⟨cp, hcp⟩ : ∃ cp, grownCap w n 0 50 = cp := ⟨_, rfl⟩
    rw [hcp] at hrz hcm hcn
    have HCM := Lib.hid hcm
    clear hcm hcp
    go_enter Try.func164, Try.ntmps164
    go_wp2_with (at_builtin; refine Lib.wpList_append_run _ rfl _ _ _ _ rfl _ _ rfl rfl _ _ (hrz _) ?_)
    all_goals
      go_ret
      refine ⟨some ⟨w.heap.size, 0, none⟩, cp, rfl, ⟨rfl, .inr ⟨w.heap.size, cp, _, rfl, Nat.le_refl _, heap_alloc_new w.drew _, Nat.zero_le _, HCM.out, ?_, ?_⟩⟩, Bw.alloc (Bw.drew (Below.refl _ _)) _⟩
      · simp only [Array.size_append, size_zeroCells]
        show cp * 1 ≤ n * 1 + (cp - n) * 1
        omega
      · rw [Nat.zero_mul]; rfl

set_option maxHeartbeats 1600000 in
set_option maxRecDepth 20000 in
theorem concat123_calls (A : Option Addr) (n c : Nat) (ps : List (List Int)) (w : World) (h : Parts w A n ps) (hn : n ≤ 100) (hc : n ≤ c) (hs : ps.flatten.length ≤ 60000) :
    Calls Try.prog 123 #[.slice A n c] w fun e w' => ∃ A' m c', e = .returned (.slice A' m c') ∧ m = ps.flatten.length ∧ m ≤ c' ∧ Mn w' w.heap.size 50 1 (.slice A' m c') m (nums .u8 ps.flatten) ∧ Below w.heap.size w w' := by
  have H := Lib.hid h
  have HL := Lib.hid h.1
  have HS := Lib.hid hs
  clear h hs
  go_enter Try.func123, Try.ntmps123
  go_wp2
  go_loop [3, 11] (fun u v => ∃ i l : Nat, i ≤ n ∧ v = .int .i64 i ∧ u = .int .i64 l ∧ l ≤ 60000 ∧ Hid (l = (ps.take i).flatten.length)) (fun _ v => n - (intOf v).toNat)
  case atStart => exact ⟨0, 0, Nat.zero_le _, rfl, rfl, Nat.zero_le _, Lib.hid rfl⟩
  case round =>
    obtain ⟨i, l, hi, rfl, rfl, hl, HLL⟩ := hrel
    by_cases hlt : i < n
    · obtain ⟨b, o, D, m, d, rfl, -, hcell, hmd, hm6, hrd, -⟩ := H.out.2 i hlt
      have hlen : l + m = (ps.take (i + 1)).flatten.length := by rw [flat_take ps i (by rw [HL.out]; exact hlt), List.length_append, ← HLL.out, hrd.len]
      have hle : l + m ≤ 60000 := by
        rw [hlen]
        refine Nat.le_trans ?_ HS.out
        conv => rhs; rw [← List.take_append_drop (i + 1) ps]
        rw [List.flatten_append, List.length_append]
        omega
      have HLEN := Lib.hid hlen
      clear hlen hrd
      go_wp2
      go_round
      case rel => exact ⟨i + 1, l + m, by omega, by go_num, by go_num, hle, HLEN⟩
      case measure => simp [intOf]; omega
    · have hin : n = i := by omega
      subst hin
      have HFL := Lib.hid (show l = ps.flatten.length by rw [HLL.out, List.take_of_length_le (by rw [HL.out]; exact Nat.le_refl _)])
      clear HLL
      go_wp2_with (go_at_call 164; refine (grow164_calls l _ hl).mono ?_; rintro e w1 ⟨A1, c1, rfl, hm1, hb1⟩)
      go_loopw [6, 27] (fun u v w' => ∃ (i k : Nat) (A' : Option Addr) (c' : Nat), i ≤ n ∧ v = .int .i64 i ∧ u = .slice A' k c' ∧ k ≤ 60000 ∧ k ≤ c' ∧ Hid (k = (ps.take i).flatten.length) ∧ Mn w' w.heap.size 50 1 (.slice A' k c') k (nums .u8 (ps.take i).flatten) ∧ Below w.heap.size w w') (fun _ v _ => n - (intOf v).toNat)
      case atStart => exact ⟨0, 0, A1, c1, Nat.zero_le _, rfl, rfl, Nat.zero_le _, Nat.zero_le _, Lib.hid rfl, hm1, hb1⟩
      case round =>
        clear hm1 hb1
        obtain ⟨i, k, A2, c2, hi, rfl, rfl, hk, hkc, HK, hmn, hb⟩ := hrel
        by_cases hlt : i < n
        · obtain ⟨b, o, D, m, d, rfl, hblt, hcell0, hmd, hm6, hrd, -⟩ := H.out.2 i hlt
          have hcell := (hb.cell (p := ⟨b, o + i, none⟩) hblt).trans hcell0
          have hft := flat_take ps i (by rw [HL.out]; exact hlt)
          have hlen : k + m = (ps.take (i + 1)).flatten.length := by rw [hft, List.length_append, ← HK.out, hrd.len]
          have hle : k + m ≤ 60000 := by
            rw [hlen]
            refine Nat.le_trans ?_ HS.out
            conv => rhs; rw [← List.take_append_drop (i + 1) ps]
            rw [List.flatten_append, List.length_append]
            omega
          have HLEN := Lib.hid hlen
          have HFT := Lib.hid hft
          have HRD := Lib.hid (hrd.below hb)
          clear hlen hrd hft hblt hcell0
          go_wp2_with (at_builtin
                       refine wpList_append_mn _ rfl _ _ _ rfl w.heap.size 50 _ 1 1 Try.underlying22 info50 rfl (by omega) (.slice A2 k c2) k (nums .u8 (ps.take i).flatten) rfl hmn D m d (nums .u8 (ps.getD i [])) rfl (by rw [Nat.mul_one]; exact HRD.out) (nums_one _ _) (by omega) (by omega) hb.size ?_
                       intro A3 c3 w3 hc3 hm3 hg3 hat3
                       have hm4 : Mn w3 w.heap.size 50 1 (.slice A3 (k + m) c3) (k + m) (nums .u8 (ps.take (i + 1)).flatten) := by rw [HFT.out, nums_append]; exact hm3
                       have hb4 : Below w.heap.size w w3 := Below.grown hb hg3 hb.size (fun q hq => (hmn.block hq).1)
                       clear hg3 hat3 hm3 hmn hb HRD)
          go_roundw
          case rel => exact ⟨i + 1, k + m, A3, c3, by omega, by go_num, rfl, hle, hc3, HLEN, hm4, hb4⟩
          case measure => simp [intOf]; omega
        · have hin : n = i := by omega
          subst hin
          have hfl : (ps.take n).flatten = ps.flatten := by rw [List.take_of_length_le (by rw [HL.out]; exact Nat.le_refl _)]
          rw [hfl] at hmn
          have HKF := Lib.hid (HK.out.trans (by rw [hfl]))
          clear hfl
          go_wp2
          go_ret
          exact ⟨A2, k, c2, rfl, HKF.out, hkc, hmn, hb⟩
end Go.Proofs.Ytnmhhjgiakijgaa
