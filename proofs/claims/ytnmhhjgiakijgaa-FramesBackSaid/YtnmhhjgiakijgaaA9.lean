/- Turned symbols, by the reference: its contract. -/
import Derived.Test.YtnmhhjgiakijgaaA8
namespace Go.Proofs.Ytnmhhjgiakijgaa
open Go.RowKit
set_option linter.unusedVariables false

set_option maxHeartbeats 3200000 in
set_option maxRecDepth 20000 in
theorem refturn_calls (A : Option Addr) (n c : Nat) (xs : List Int) (D : Option Addr) (m d : Nat) (at_ : List Int) (w : World) (hr : Rd w .u8 A n xs) (hc : n ≤ c) (hn : n ≤ 60000) (hs : Rd w .i64 D m at_) (hd : m ≤ d) (hm : m ≤ 60000) :
    Calls Try.prog 39 #[.slice A n c, .slice D m d] w fun e w' => ∃ A' c', e = .returned (.slice A' n c') ∧ n ≤ c' ∧ Mn w' w.heap.size 50 1 (.slice A' n c') n (nums .u8 (turnL xs at_)) ∧ Below w.heap.size w w' := by
  have HR := Lib.hid hr
  have HL := Lib.hid hr.len
  have HS := Lib.hid hs
  have HM := Lib.hid hs.len
  have HTL := Lib.hid ((turnL_length xs at_).trans hr.len)
  clear hr hs
  go_enter Try.func39, Try.ntmps39
  go_wp2
  go_loopw [5, 6] (fun v i wr => ∃ (k c' : Nat) (A' : Option Addr), k ≤ n ∧ i = .int .i64 k ∧ v = .slice A' k c' ∧ k ≤ c' ∧ Mn wr w.heap.size 50 1 (.slice A' k c') k (nums .u8 ((turnL xs at_).take k)) ∧ Below w.heap.size w wr)
    (fun _ i _ => n - (intOf i).toNat)
  case atStart => exact ⟨0, 0, none, Nat.zero_le _, rfl, rfl, Nat.le_refl _, Mn.nil _ _ _ _, Below.refl _ _⟩
  case round =>
    obtain ⟨k, c', A', hk, rfl, rfl, hkc, hm1, hb⟩ := hrel
    by_cases hlt : k < n
    · obtain ⟨b1, o, rfl, hcell⟩ := (HR.out.below hb).at_ k hlt
      have HT := Lib.hid (turnL_take_snoc xs at_ k (by rw [HL.out]; exact hlt))
      have HC := Lib.hid hcell
      have HMn := Lib.hid hm1
      have HSr := Lib.hid (HS.out.below hb)
      have HB := Lib.hid hb
      clear hcell hm1 hb
      go_wp2
      go_loop [7, 8] (fun u v => ∃ j T : Nat, j ≤ m ∧ v = .int .i64 j ∧ u = .int .i64 T ∧ Hid (T = times (at_.take j) k) ∧ T ≤ j) (fun _ v => m - (intOf v).toNat)
      case atStart => exact ⟨0, 0, Nat.zero_le _, rfl, rfl, rfl, Nat.le_refl _⟩
      case round =>
        obtain ⟨j, T, hj, rfl, rfl, HTT, hTj⟩ := hrel
        by_cases hjl : j < m
        · obtain ⟨b2, o2, e2, hcell2⟩ := HSr.out.at_ j hjl
          subst e2
          have HQ := Lib.hid (times_take at_ j k (by rw [HM.out]; exact hjl))
          by_cases hi : gt at_ j = (k : Int)
          · rw [hi] at hcell2
            have HI := Lib.hid hi
            clear hi
            go_wp2
            go_round
            case rel => exact ⟨j + 1, T + 1, by omega, by go_num, by go_num, by show _ = _; rw [HQ.out, if_pos HI.out, HTT.out], by omega⟩
            case measure => simp [intOf]; omega
          · have hne : (gt at_ j == (k : Int)) = false := by simp; exact hi
            have HI := Lib.hid hi
            clear hi
            go_wp2
            go_round
            case rel => exact ⟨j + 1, T, by omega, by go_num, rfl, by show _ = _; rw [HQ.out, if_neg HI.out, HTT.out, Nat.add_zero], by omega⟩
            case measure => simp [intOf]; omega
        · have e : j = m := by omega
          subst e
          have hTT := HTT.out
          rw [List.take_of_length_le (by rw [HM.out]; exact Nat.le_refl _)] at hTT
          have HX := Lib.hid hTT
          clear hTT
          have hcell := HC.out
          have hm1 := HMn.out
          have hb := HB.out
          obtain ⟨y, hy⟩ : ∃ y, y = oddly T (gt xs k) := ⟨_, rfl⟩
          have HY := Lib.hid hy
          clear hy
          generalize hgx : gt xs k = x at *
          have hcases : (T % 2 = 1 ∧ x = 1 ∧ y = 2) ∨ (T % 2 = 1 ∧ x = 2 ∧ y = 1) ∨ (T % 2 = 1 ∧ (x == 1) = false ∧ (x == 2) = false ∧ y = x) ∨ (T % 2 = 0 ∧ y = x) := by
            have := HY.out
            unfold oddly at this
            by_cases ht : T % 2 = 1
            · rw [if_pos ht] at this
              unfold flip at this
              by_cases h1 : x = 1
              · subst h1; left; exact ⟨ht, rfl, by rw [this]; rfl⟩
              · by_cases h2 : x = 2
                · subst h2; right; left; exact ⟨ht, rfl, by rw [this]; rfl⟩
                · right; right; left
                  have hf1 : (x == 1) = false := by simp; exact h1
                  have hf2 : (x == 2) = false := by simp; exact h2
                  have hw : wholeB x = false := by unfold wholeB; rw [hf1, hf2]; rfl
                  rw [hw] at this
                  exact ⟨ht, hf1, hf2, this⟩
            · rw [if_neg ht] at this
              right; right; right; exact ⟨by omega, this⟩
          rcases hcases with ⟨ht, rfl, rfl⟩ | ⟨ht, rfl, rfl⟩ | ⟨ht, hf1, hf2, rfl⟩ | ⟨ht, rfl⟩
          all_goals
            have ht2 : ((T : Int) % 2) = ((T % 2 : Nat) : Int) := by omega
            rw [ht] at ht2
            have ht3 : ((T : Int).tmod 2) = ((T % 2 : Nat) : Int) := by rw [Int.tmod_eq_emod_of_nonneg (by omega)]; omega
            rw [ht] at ht3
            clear ht
            go_wp2_with (first
              | (at_builtin
                 refine wpList_append_mn _ rfl _ _ _ rfl w.heap.size 50 _ 1 1 Try.underlying22 info50 rfl (by omega) (.slice A' k c') k (nums .u8 ((turnL xs at_).take k)) rfl (hm1.alloc _) _ 1 1 (nums .u8 [_]) rfl rv_one (nums_one _ _) (by omega) (by omega) (by simp; have := hb.size; omega) ?_
                 intro A2 c2 w2 hc2 hm2 hg2 hat2))
            go_roundw
            case rel => exact ⟨k + 1, c2, A2, by omega, by go_num, rfl, hc2, by rw [HT.out, ← HX.out, nums_append, ← HY.out]; exact hm2, (hb.alloc hb.size _).grown hg2 (by simp; have := hb.size; omega) (fun k hk => (hm1.block hk).1)⟩
            case measure => simp [intOf]; omega
    · have e : k = n := by omega
      subst e
      rw [List.take_of_length_le (by rw [HTL.out]; exact Nat.le_refl _)] at hm1
      go_wp2
      go_ret
      exact ⟨_, _, rfl, hkc, hm1, hb⟩
end Go.Proofs.Ytnmhhjgiakijgaa
