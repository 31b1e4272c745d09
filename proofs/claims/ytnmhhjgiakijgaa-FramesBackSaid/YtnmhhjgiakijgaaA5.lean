/- A bit of a number; the reference's Put; symbols of bytes, by both; sameness of bytes: contracts. -/
import Derived.Test.YtnmhhjgiakijgaaA4
namespace Go.Proofs.Ytnmhhjgiakijgaa
open Go.RowKit
set_option linter.unusedVariables false

theorem half_u64 (m : Nat) (hm : m < 18446744073709551616) : IntKind.u64.wrap ((m : Int).tdiv 2) = ((m / 2 : Nat) : Int) := by
  rw [wrap_u64, Int.tdiv_eq_ediv_of_nonneg (by omega)]
  omega
theorem odd_u64 (m : Nat) : (m : Int).tmod 2 = ((low m : Nat) : Int) := by
  rw [Int.tmod_eq_emod_of_nonneg (by omega)]
  simp [low]

set_option maxHeartbeats 400000 in
theorem bit_calls (n : Nat) (i : Nat) (hn : n < 18446744073709551616) (hi : i ≤ 64) (w : World) :
    Calls Try.prog 102 #[.int .u64 n, .int .i64 i] w fun e w' => e = .returned (.int .u8 (bitOf n i)) ∧ w = w' := by
  have HN := Lib.hid hn
  clear hn
  go_enter Try.func102, Try.ntmps102
  go_wp2
  go_loop [0, 5] (fun u v => ∃ k M : Nat, k ≤ i ∧ v = .int .i64 k ∧ u = .int .u64 (M : Int) ∧ Hid (M = shr n k)) (fun _ v => i - (intOf v).toNat)
  case atStart => exact ⟨0, n, Nat.zero_le _, rfl, rfl, (shr_zero n).symm⟩
  case round =>
    obtain ⟨k, M, hk, rfl, rfl, HM⟩ := hrel
    have hM : M < 18446744073709551616 := by rw [HM.out]; exact Nat.lt_of_le_of_lt (shr_le _ _) HN.out
    have hhalf := half_u64 M hM
    have hodd := odd_u64 M
    have H64 := Lib.hid hM
    clear hM
    by_cases hlt : k < i
    · go_wp2
      go_round
      case rel => exact ⟨k + 1, M / 2, by omega, by go_num, by first | rfl | (congr 1; done) | (congr 1; simp only [wrap_u64]; have := H64.out; omega), by show _ = _; rw [shr_succ, HM.out]⟩
      case measure => simp [intOf]; omega
    · have e : k = i := by omega
      subst e
      have h01 := low_lt M
      by_cases h1 : low M = 1
      · have hb : bitOf n k = 2 := by unfold bitOf; rw [← HM.out, h1]; rfl
        have HB := Lib.hid hb
        rw [h1] at hodd
        clear hb h1
        go_wp2
        go_ret
        exact ⟨by rw [HB.out]; rfl, rfl⟩
      · have h0 : low M = 0 := by omega
        have hb : bitOf n k = 1 := by unfold bitOf; rw [← HM.out, h0]; rfl
        have HB := Lib.hid hb
        rw [h0] at hodd
        clear hb h1 h0
        go_wp2
        go_ret
        exact ⟨by rw [HB.out]; rfl, rfl⟩

set_option maxHeartbeats 1600000 in
set_option maxRecDepth 20000 in
theorem refput_calls (A : Option Addr) (n c : Nat) (xs : List Int) (N : Nat) (b : Int) (w : World) (hr : Rd w .u8 A n xs) (hc : n ≤ c) (hn : n ≤ 60000) (hN : N < 18446744073709551616) :
    Calls Try.prog 33 #[.slice A n c, .int .u64 N, .int .i64 b] w fun e w' => ∃ A' m c', e = .returned (.slice A' m c') ∧ m = n + many b ∧ m ≤ c' ∧ Mn w' w.heap.size 50 1 (.slice A' m c') m (nums .u8 (putA xs N b)) ∧ Below w.heap.size w w' := by
  have HR := Lib.hid hr
  have HN := Lib.hid hN
  have HL := Lib.hid hr.len
  clear hr hN
  go_enter Try.func33, Try.ntmps33
  go_wp2
  go_loopw [7, 8] (fun v i wr => ∃ (k c' : Nat) (A' : Option Addr), k ≤ n ∧ i = .int .i64 k ∧ v = .slice A' k c' ∧ k ≤ c' ∧ Mn wr w.heap.size 50 1 (.slice A' k c') k (nums .u8 (xs.take k)) ∧ Below w.heap.size w wr)
    (fun _ i _ => n - (intOf i).toNat)
  case atStart => exact ⟨0, 0, none, Nat.zero_le _, rfl, rfl, Nat.le_refl _, Mn.nil _ _ _ _, Below.refl _ _⟩
  case round =>
    obtain ⟨k, c', A', hk, rfl, rfl, hkc, hm, hb⟩ := hrel
    by_cases hlt : k < n
    · obtain ⟨b1, o, rfl, hcell⟩ := (HR.out.below hb).at_ k hlt
      have HT := Lib.hid (take_snoc xs k (by rw [HL.out]; exact hlt))
      go_wp2_with (first
        | (at_builtin
           refine wpList_append_mn _ rfl _ _ _ rfl w.heap.size 50 _ 1 1 Try.underlying22 info50 rfl (by omega) (.slice A' k c') k (nums .u8 (xs.take k)) rfl (hm.alloc _) _ 1 1 (nums .u8 [gt xs k]) rfl rv_one (nums_one _ _) (by omega) (by omega) (by simp; have := hb.size; omega) ?_
           intro A2 c2 w2 hc2 hm2 hg2 hat2))
      go_roundw
      case rel => exact ⟨k + 1, c2, A2, by omega, by go_num, rfl, hc2, by rw [HT.out, nums_append]; exact hm2, (hb.alloc hb.size _).grown hg2 (by simp; have := hb.size; omega) (fun k hk => (hm.block hk).1)⟩
      case measure => simp [intOf]; omega
    · have e : k = n := by omega
      subst e
      have hm0 : Mn wr w.heap.size 50 1 (.slice A' k c') k (nums .u8 xs) := by
        rw [List.take_of_length_le (by rw [HL.out]; exact Nat.le_refl _)] at hm; exact hm
      clear hm
      have hcase : (64 < b ∧ many b = 64) ∨ (¬ 64 < b ∧ b < 0 ∧ many b = 0) ∨ (¬ 64 < b ∧ ¬ b < 0 ∧ (many b : Int) = b) := by
        unfold many cut64
        by_cases h : 64 < b
        · left; rw [if_pos h]; omega
        · rw [if_neg h]; right; omega
      rcases hcase with ⟨h1, h3⟩ | ⟨h1, h2, h3⟩ | ⟨h1, h2, h3⟩
      all_goals
        have HML := Lib.hid h3
        clear h3
        go_wp2
        go_loopw [7, 9] (fun v i wr => ∃ (j m c' : Nat) (A' : Option Addr) (ys : List Int), j ≤ 64 ∧ m + j = k + many b ∧ i = .int .i64 ((j : Int) - 1) ∧ v = .slice A' m c' ∧ m ≤ c' ∧ Mn wr w.heap.size 50 1 (.slice A' m c') m (nums .u8 ys) ∧ Hid (ys ++ putL N j = putA xs N b) ∧ Below w.heap.size w wr)
          (fun _ i _ => (intOf i + 1).toNat)
        case atStart => exact ⟨many b, k, c', A', xs, many_le b, rfl, by congr 1; have := HML.out; omega, rfl, hkc, hm0, rfl, hb⟩
        case round =>
          clear hm0
          obtain ⟨j, m, c2, A2, ys, hj, hmj, rfl, rfl, hmc, hm2, hys, hb2⟩ := hrel
          have hml := many_le b
          by_cases hj0 : j = 0
          · subst hj0
            have e : m = k + many b := by omega
            subst e
            have hys2 : ys = putA xs N b := by have := hys.out; simpa [putL] using this
            subst hys2
            go_wp2
            go_ret
            exact ⟨_, _, _, rfl, rfl, hmc, hm2, hb2⟩
          · obtain ⟨L, rfl⟩ : ∃ L, j = L + 1 := ⟨j - 1, by omega⟩
            have eL : (((L + 1 : Nat) : Int) - 1) = (L : Int) := by omega
            rw [eL]
            clear eL hj0
            go_wp2_with (first
              | (go_at_call 102; refine (bit_calls _ _ HN.out (by omega) _).mono ?_; rintro e w' ⟨rfl, rfl⟩)
              | (at_builtin
                 refine wpList_append_mn _ rfl _ _ _ rfl w.heap.size 50 _ 1 1 Try.underlying22 info50 rfl (by omega) (.slice A2 m c2) m (nums .u8 ys) rfl (hm2.alloc _) _ 1 1 (nums .u8 [bitOf N L]) rfl rv_one (nums_one _ _) (by omega) (by omega) (by simp; have := hb2.size; omega) ?_
                 intro A3 c3 w3 hc3 hm3 hg3 hat3))
            go_roundw
            case rel => exact ⟨L, m + 1, c3, A3, ys ++ [bitOf N L], by omega, by omega, by first | rfl | (congr 1; omega), rfl, hc3, by rw [nums_append]; exact hm3, by
              show _ = _
              rw [← hys.out, List.append_assoc]; rfl, (hb2.alloc hb2.size _).grown hg3 (by simp; have := hb2.size; omega) (fun k hk => (hm2.block hk).1)⟩
            case measure => simp [intOf]; try omega
end Go.Proofs.Ytnmhhjgiakijgaa
