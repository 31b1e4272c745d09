/- Whole symbols, and numbers of symbols: contracts. -/
import Derived.Test.YtnmhhjgiakijgaaA3
namespace Go.Proofs.Ytnmhhjgiakijgaa
open Go.RowKit
set_option linter.unusedVariables false

theorem wrap_u64 (n : Int) : IntKind.u64.wrap n = n % 18446744073709551616 := by simp [IntKind.wrap, IntKind.bits, IntKind.signed]
theorem bits_or_nat (a b : Nat) (ha : a < 18446744073709551616) (hb : b < 18446744073709551616) : bits .or .u64 (a : Int) (b : Int) = ((a ||| b : Nat) : Int) := by
  have h : bits .or .u64 (a : Int) (b : Int) = IntKind.u64.wrap ((BitVec.ofInt 64 (a : Int) ||| BitVec.ofInt 64 (b : Int)).toNat : Int) := rfl
  have h1 : BitVec.ofInt 64 (a : Int) = BitVec.ofNat 64 a := by simp
  have h2 : BitVec.ofInt 64 (b : Int) = BitVec.ofNat 64 b := by simp
  rw [h, h1, h2, BitVec.toNat_or, BitVec.toNat_ofNat, BitVec.toNat_ofNat, Nat.mod_eq_of_lt ha, Nat.mod_eq_of_lt hb, wrap_u64]
  have : a ||| b < 2 ^ 64 := Nat.or_lt_two_pow ha hb
  omega
theorem bits_or_low (N : Nat) (x : Int) (hN : N < 9223372036854775808) (hx : x = 1 ∨ x = 2) :
    bits .or .u64 (IntKind.u64.wrap ((N : Int) * 2)) ((x - 1) % 256) = ((2 * N + (x - 1).toNat : Nat) : Int) := by
  have e1 : IntKind.u64.wrap ((N : Int) * 2) = ((2 * N : Nat) : Int) := by rw [wrap_u64]; omega
  have e2 : (x - 1) % 256 = (((x - 1).toNat : Nat) : Int) := by omega
  rw [e1, e2, bits_or_nat _ _ (by omega) (by omega)]
  have := Nat.two_pow_add_eq_or_of_lt (i := 1) (b := (x - 1).toNat) (by omega) N
  simp only [Nat.pow_one] at this
  rw [this]

theorem whole_calls (x : Int) (w : World) : Calls Try.prog 105 #[.int .u8 x] w fun e w' => e = .returned (.bool (wholeB x)) ∧ w = w' := by
  by_cases h : x = 1
  · subst h
    go_enter Try.func105, Try.ntmps105
    go_wp2
    go_ret
    exact ⟨rfl, rfl⟩
  · have h1 : (x == 1) = false := beq_eq_false_iff_ne.2 h
    go_enter Try.func105, Try.ntmps105
    go_wp2
    go_ret
    exact ⟨by unfold wholeB; rw [h1]; rfl, rfl⟩

theorem notwhole_calls (x : Int) (w : World) : Calls Try.prog 108 #[.int .u8 x] w fun e w' => e = .returned (.bool (!wholeB x)) ∧ w = w' := by
  go_enter Try.func108, Try.ntmps108
  go_wp2_with (go_at_call 105; refine (whole_calls _ _).mono ?_; rintro e w' ⟨rfl, rfl⟩)
  go_ret
  exact ⟨rfl, rfl⟩

set_option maxHeartbeats 1600000 in
set_option maxRecDepth 20000 in
theorem index_calls (A : Option Addr) (n c : Nat) (xs : List Int) (w : World) (hr : Rd w .u8 A n xs) (hc : n ≤ c) (hn : n ≤ 60000) :
    Calls Try.prog 147 #[.slice A n c, .func (.func 108) #[] #[]] w fun e w' => ∃ r : Int, e = .returned (.int .i64 r) ∧ decide (0 ≤ r) = !wholeL xs ∧ w = w' := by
  have HR := Lib.hid hr
  have HL := Lib.hid hr.len
  clear hr
  go_enter Try.func147, Try.ntmps147
  go_wp2
  go_loop [8] (fun v => ∃ k : Nat, k ≤ n ∧ v = .int .i64 k ∧ (∀ j, j < k → wholeB (gt xs j) = true)) (fun v => n - (intOf v).toNat)
  case atStart => exact ⟨0, Nat.zero_le _, rfl, fun j hj => absurd hj (by omega)⟩
  case round =>
    obtain ⟨k, hk, rfl, heq⟩ := hrel
    have HE := Lib.hid heq
    clear heq
    by_cases hlt : k < n
    · obtain ⟨b, o, rfl, hcell⟩ := HR.out.at_ k hlt
      cases hx : wholeB (gt xs k) with
      | true =>
        go_wp2_with (go_at_call 108; refine (notwhole_calls _ _).mono ?_; rintro e w' ⟨rfl, rfl⟩)
        go_round
        case rel => exact ⟨k + 1, by omega, by go_num, fun j hj => by
          rcases Nat.lt_succ_iff_lt_or_eq.1 hj with h | h
          · exact HE.out j h
          · rw [h]; exact hx⟩
        case measure => simp [intOf]; omega
      | false =>
        have hfin := wholeL_false (by rw [HL.out]; exact hlt) hx
        have HF := Lib.hid hfin
        clear hfin
        go_wp2_with (go_at_call 108; refine (notwhole_calls _ _).mono ?_; rintro e w' ⟨rfl, rfl⟩)
        go_ret
        exact ⟨k, rfl, by rw [HF.out]; simp, rfl⟩
    · have hfin : wholeL xs = true := (wholeL_iff xs).2 (fun j hj => HE.out j (by have := HL.out; omega))
      have HF := Lib.hid hfin
      clear hfin
      go_wp2
      go_ret
      exact ⟨-1, rfl, by rw [HF.out]; rfl, rfl⟩

set_option maxRecDepth 20000 in
theorem contains_calls (A : Option Addr) (n c : Nat) (xs : List Int) (w : World) (hr : Rd w .u8 A n xs) (hc : n ≤ c) (hn : n ≤ 60000) :
    Calls Try.prog 107 #[.slice A n c, .func (.func 108) #[] #[]] w fun e w' => e = .returned (.bool (!wholeL xs)) ∧ w = w' := by
  have HR := Lib.hid hr
  clear hr
  go_enter Try.func107, Try.ntmps107
  go_wp2_with (go_at_call 147; refine (index_calls _ _ _ xs _ HR.out hc hn).mono ?_; rintro e w' ⟨r, rfl, hr, rfl⟩)
  go_ret
  exact ⟨rfl, rfl⟩

set_option maxRecDepth 20000 in
theorem wholes_calls (A : Option Addr) (n c : Nat) (xs : List Int) (w : World) (hr : Rd w .u8 A n xs) (hc : n ≤ c) (hn : n ≤ 60000) :
    Calls Try.prog 42 #[.slice A n c] w fun e w' => e = .returned (.bool (wholeL xs)) ∧ w = w' := by
  have HR := Lib.hid hr
  clear hr
  go_enter Try.func42, Try.ntmps42
  go_wp2_with (go_at_call 107; refine (contains_calls _ _ _ xs _ HR.out hc hn).mono ?_; rintro e w' ⟨rfl, rfl⟩)
  go_ret
  exact ⟨by simp, rfl⟩

set_option maxHeartbeats 1600000 in
set_option maxRecDepth 20000 in
theorem refwhole_calls (A : Option Addr) (n c : Nat) (xs : List Int) (w : World) (hr : Rd w .u8 A n xs) (hc : n ≤ c) (hn : n ≤ 60000) :
    Calls Try.prog 49 #[.slice A n c] w fun e w' => e = .returned (.bool (wholeL xs)) ∧ w = w' := by
  have HR := Lib.hid hr
  have HL := Lib.hid hr.len
  clear hr
  go_enter Try.func49, Try.ntmps49
  go_wp2
  go_loop [3] (fun v => ∃ k : Nat, k ≤ n ∧ v = .int .i64 k ∧ (∀ j, j < k → wholeB (gt xs j) = true)) (fun v => n - (intOf v).toNat)
  case atStart => exact ⟨0, Nat.zero_le _, rfl, fun j hj => absurd hj (by omega)⟩
  case round =>
    obtain ⟨k, hk, rfl, heq⟩ := hrel
    have HE := Lib.hid heq
    clear heq
    by_cases hlt : k < n
    · obtain ⟨b, o, rfl, hcell⟩ := HR.out.at_ k hlt
      cases hx : wholeB (gt xs k) with
      | true =>
        have HX := Lib.hid hx
        clear hx
        rcases wholeB_cases HX.out with h1 | h1
        all_goals
          rw [h1] at hcell
          go_wp2
          go_round
          case rel => exact ⟨k + 1, by omega, by go_num, fun j hj => by
            rcases Nat.lt_succ_iff_lt_or_eq.1 hj with h | h
            · exact HE.out j h
            · rw [h]; exact HX.out⟩
          case measure => simp [intOf]; omega
      | false =>
        have hfin := wholeL_false (by rw [HL.out]; exact hlt) hx
        have HF := Lib.hid hfin
        clear hfin
        have h12 : (gt xs k != 1) = true ∧ (gt xs k != 2) = true := by
          unfold wholeB at hx
          simpa using hx
        obtain ⟨h1, h2⟩ := h12
        clear hx
        go_wp2
        go_ret
        exact ⟨by rw [HF.out]; rfl, rfl⟩
    · have hfin : wholeL xs = true := (wholeL_iff xs).2 (fun j hj => HE.out j (by have := HL.out; omega))
      have HF := Lib.hid hfin
      clear hfin
      go_wp2
      go_ret
      exact ⟨by rw [HF.out]; rfl, rfl⟩

set_option maxHeartbeats 1600000 in
set_option maxRecDepth 20000 in
theorem num_calls (A : Option Addr) (n c : Nat) (xs : List Int) (w : World) (hr : Rd w .u8 A n xs) (hc : n ≤ c) (hn : n ≤ 60000) :
    Calls Try.prog 29 #[.slice A n c] w fun e w' => e = .returned (.tuple #[.int .u64 (numV xs), .bool (numOk xs)]) ∧ w = w' := by
  have HR := Lib.hid hr
  have HL := Lib.hid hr.len
  clear hr
  by_cases h64 : 64 < n
  · have hg : decide ((n : Int) > 64) = true := by simp; omega
    have hok : numOk xs = false := by unfold numOk; rw [HL.out]; simp; omega
    have HF := Lib.hid hok
    clear hok
    go_enter Try.func29, Try.ntmps29
    go_wp2_with (go_at_call 42; refine (wholes_calls _ _ _ xs _ HR.out hc hn).mono ?_; rintro e w' ⟨rfl, rfl⟩)
    go_ret2
    exact ⟨by unfold numV; rw [HF.out]; rfl, rfl⟩
  · cases hwl : wholeL xs with
    | false =>
      have hok : numOk xs = false := by unfold numOk; rw [hwl]; simp
      have HF := Lib.hid hok
      clear hok
      go_enter Try.func29, Try.ntmps29
      go_wp2_with (go_at_call 42; refine (wholes_calls _ _ _ xs _ HR.out hc hn).mono ?_; rintro e w' ⟨rfl, rfl⟩)
      go_ret2
      exact ⟨by unfold numV; rw [HF.out]; rfl, rfl⟩
    | true =>
      have hok : numOk xs = true := by unfold numOk; rw [hwl, HL.out]; simp; omega
      have HF := Lib.hid hok
      clear hok
      have HW := Lib.hid hwl
      go_enter Try.func29, Try.ntmps29
      go_wp2_with (go_at_call 42; refine (wholes_calls _ _ _ xs _ HR.out hc hn).mono ?_; rintro e w' ⟨rfl, rfl⟩)
      go_loop [2, 16] (fun u v => ∃ (k N : Nat), k ≤ n ∧ v = .int .i64 k ∧ u = .int .u64 N ∧ Hid (N = numL (xs.take k))) (fun _ v => n - (intOf v).toNat)
      case atStart => exact ⟨0, 0, Nat.zero_le _, rfl, rfl, rfl⟩
      case round =>
        obtain ⟨k, N, hk, rfl, rfl, HN⟩ := hrel
        by_cases hlt : k < n
        · obtain ⟨b, o, rfl, hcell⟩ := HR.out.at_ k hlt
          have hN63 : N < 9223372036854775808 := by
            have h1 := numL_lt xs HW.out k (by rw [HL.out]; exact hk)
            rw [← HN.out] at h1
            exact Nat.lt_of_lt_of_le h1 (show 2 ^ k ≤ 2 ^ 63 from Nat.pow_le_pow_right (by omega) (by omega))
          have hor := bits_or_low N (gt xs k) hN63 (wholeB_cases ((wholeL_iff xs).1 HW.out k (by rw [HL.out]; exact hlt)))
          have HO := Lib.hid hor
          clear hor hN63
          go_wp2
          go_round
          case rel => exact ⟨k + 1, 2 * N + (gt xs k - 1).toNat, by omega, by go_num, by rw [HO.out], by
            show _ = _
            rw [numL_take xs k (by rw [HL.out]; exact hlt), HN.out]⟩
          case measure => simp [intOf]; omega
        · go_wp2
          go_ret2
          have e : N = numV xs := by
            have h1 := HN.out
            unfold numV
            rw [HF.out, if_pos rfl, h1, List.take_of_length_le (by rw [HL.out]; omega)]
          exact ⟨by rw [HF.out, ← e]; rfl, rfl⟩

set_option maxHeartbeats 1600000 in
set_option maxRecDepth 20000 in
theorem refnum_calls (A : Option Addr) (n c : Nat) (xs : List Int) (w : World) (hr : Rd w .u8 A n xs) (hc : n ≤ c) (hn : n ≤ 60000) :
    Calls Try.prog 30 #[.slice A n c] w fun e w' => e = .returned (.tuple #[.int .u64 (numV xs), .bool (numOk xs)]) ∧ w = w' := by
  have HR := Lib.hid hr
  have HL := Lib.hid hr.len
  clear hr
  by_cases h64 : 64 < n
  · have hg : decide ((n : Int) > 64) = true := by simp; omega
    have hok : numOk xs = false := by unfold numOk; rw [HL.out]; simp; omega
    have HF := Lib.hid hok
    clear hok
    go_enter Try.func30, Try.ntmps30
    go_wp2_with (go_at_call 49; refine (refwhole_calls _ _ _ xs _ HR.out hc hn).mono ?_; rintro e w' ⟨rfl, rfl⟩)
    go_ret2
    exact ⟨by unfold numV; rw [HF.out]; rfl, rfl⟩
  · cases hwl : wholeL xs with
    | false =>
      have hok : numOk xs = false := by unfold numOk; rw [hwl]; simp
      have HF := Lib.hid hok
      clear hok
      go_enter Try.func30, Try.ntmps30
      go_wp2_with (go_at_call 49; refine (refwhole_calls _ _ _ xs _ HR.out hc hn).mono ?_; rintro e w' ⟨rfl, rfl⟩)
      go_ret2
      exact ⟨by unfold numV; rw [HF.out]; rfl, rfl⟩
    | true =>
      have hok : numOk xs = true := by unfold numOk; rw [hwl, HL.out]; simp; omega
      have HF := Lib.hid hok
      clear hok
      have HW := Lib.hid hwl
      go_enter Try.func30, Try.ntmps30
      go_wp2_with (go_at_call 49; refine (refwhole_calls _ _ _ xs _ HR.out hc hn).mono ?_; rintro e w' ⟨rfl, rfl⟩)
      go_loop [4, 5] (fun u v => ∃ (k N : Nat), k ≤ n ∧ v = .int .i64 k ∧ u = .int .u64 N ∧ Hid (N = numL (xs.take k))) (fun _ v => n - (intOf v).toNat)
      case atStart => exact ⟨0, 0, Nat.zero_le _, rfl, rfl, rfl⟩
      case round =>
        obtain ⟨k, N, hk, rfl, rfl, HN⟩ := hrel
        by_cases hlt : k < n
        · obtain ⟨b, o, rfl, hcell⟩ := HR.out.at_ k hlt
          have hN63 : N < 9223372036854775808 := by
            have h1 := numL_lt xs HW.out k (by rw [HL.out]; exact hk)
            rw [← HN.out] at h1
            exact Nat.lt_of_lt_of_le h1 (show 2 ^ k ≤ 2 ^ 63 from Nat.pow_le_pow_right (by omega) (by omega))
          have H63 := Lib.hid hN63
          clear hN63
          rcases wholeB_cases ((wholeL_iff xs).1 HW.out k (by rw [HL.out]; exact hlt)) with h1 | h1
          all_goals
            rw [h1] at hcell
            have H1 := Lib.hid h1
            clear h1
            go_wp2
            go_round
            case rel => exact ⟨k + 1, 2 * N + (gt xs k - 1).toNat, by omega, by go_num, by
              rw [H1.out]
              have := H63.out
              congr 1
              try simp only [wrap_u64]
              omega, by
              show _ = _
              rw [numL_take xs k (by rw [HL.out]; exact hlt), HN.out]⟩
            case measure => simp [intOf]; omega
        · go_wp2
          go_ret2
          have e : N = numV xs := by
            have h1 := HN.out
            unfold numV
            rw [HF.out, if_pos rfl, h1, List.take_of_length_le (by rw [HL.out]; omega)]
          exact ⟨by rw [HF.out, ← e]; rfl, rfl⟩
end Go.Proofs.Ytnmhhjgiakijgaa
