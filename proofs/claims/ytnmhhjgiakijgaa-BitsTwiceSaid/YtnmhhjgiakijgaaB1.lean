/- BitsTwice: what the call returns. -/
import Derived.Test.YtnmhhjgiakijgaaB0
namespace Go.Proofs.Ytnmhhjgiakijgaa
open Go.RowKit
set_option linter.unusedVariables false

set_option maxHeartbeats 3200000 in
set_option maxRecDepth 20000 in
theorem twice_walk (A : Option Addr) (n c : Nat) (xs : List Int) (p q : Nat) (w : World) (hr : Rd w .u8 A n xs) (hc : n ≤ c) (hp : p ≤ 65535) (hq : q ≤ 65535) :
    Calls Try.prog 6 #[.slice A n c, .agg #[.int .u16 p, .int .u16 q]] w fun e w' => e = .returned (.bool true) ∧ Below w.heap.size w w' := by
  have HR := Lib.hid hr
  have HL := Lib.hid hr.len
  clear hr
  by_cases h0 : 500 < n ∨ n = 0
  · rcases h0 with h0 | h0
    · go_enter Try.func6, Try.ntmps6
      go_wp2_with (go_at_call 27; refine (lives01 _).mono ?_; rintro e w1 ⟨rfl, hb1⟩)
      go_ret
      exact ⟨rfl, (by repeat (first | exact Below.refl _ _ | apply Bw.alloc | apply Bw.drewN | (refine Bw.step ?_ (by assumption))))⟩
    · subst h0
      go_enter Try.func6, Try.ntmps6
      go_wp2_with (go_at_call 27; refine (lives01 _).mono ?_; rintro e w1 ⟨rfl, hb1⟩)
      go_ret
      exact ⟨rfl, (by repeat (first | exact Below.refl _ _ | apply Bw.alloc | apply Bw.drewN | (refine Bw.step ?_ (by assumption))))⟩
  · have h1 : n ≤ 500 := by omega
    have h2 : 0 < n := by omega
    have hne : ((n : Int) == 0) = false := by simp; omega
    clear h0
    obtain ⟨i, hi⟩ : ∃ i : Nat, p % n = i := ⟨_, rfl⟩
    obtain ⟨k, hk⟩ : ∃ k : Nat, q % n = k := ⟨_, rfl⟩
    have hi1 : (p : Int) % (n : Int) = (i : Int) := by omega
    have hi2 : (p : Int).tmod (n : Int) = (i : Int) := by rw [Int.tmod_eq_emod_of_nonneg (by omega)]; exact hi1
    have hk1 : (q : Int) % (n : Int) = (k : Int) := by omega
    have hk2 : (q : Int).tmod (n : Int) = (k : Int) := by rw [Int.tmod_eq_emod_of_nonneg (by omega)]; exact hk1
    have hil : i < n := by rw [← hi]; exact Nat.mod_lt _ h2
    have hkl : k < n := by rw [← hk]; exact Nat.mod_lt _ h2
    clear hi hk
    have S1 := Lib.hid (twice_a xs i)
    have S2 := Lib.hid (twice_b xs i k)
    have S3 := Lib.hid (twice_c xs i k)
    have S4 := Lib.hid (wholeL_two xs i k)
    go_enter Try.func6, Try.ntmps6
    go_wp2_with fail
    clear hi1 hi2 hk1 hk2
    refine (turn_calls _ _ _ xs _ _ _ [(i : Int)] _ (HR.out.below (by repeat (first | exact Below.refl _ _ | apply Bw.alloc | apply Bw.drewN | (refine Bw.step ?_ (by assumption))))) hc (by omega) (r_one _ _ _ (by simp)) (by omega) (by omega)).mono ?_; rintro e w1 ⟨A1, rfl, hm1, hb1⟩
    go_wp2_with fail
    refine (turn_calls _ _ _ xs _ _ _ [(i : Int), (k : Int)] _ (HR.out.below (by repeat (first | exact Below.refl _ _ | apply Bw.alloc | apply Bw.drewN | (refine Bw.step ?_ (by assumption))))) hc (by omega) (r_two _ _ _ _ (by simp)) (by omega) (by omega)).mono ?_; rintro e w2 ⟨A2, rfl, hm2, hb2⟩
    go_wp2_with fail
    refine (turn_calls _ _ _ (turnL xs [(i : Int)]) _ _ _ [(i : Int)] _ (hm1.rd.below (by repeat (first | exact Below.refl _ _ | apply Bw.alloc | apply Bw.drewN | (refine Bw.step ?_ (by assumption))))) (by omega) (by omega) (r_one _ _ _ (by simp)) (by omega) (by omega)).mono ?_; rintro e w3 ⟨A3, rfl, hm3, hb3⟩
    go_wp2_with fail
    refine (samesyms_calls _ _ _ _ _ _ _ xs _ hm3.rd (HR.out.below (by repeat (first | exact Below.refl _ _ | apply Bw.alloc | apply Bw.drewN | (refine Bw.step ?_ (by assumption))))) (by omega) hc (by omega)).mono ?_; rintro e w' ⟨rfl, q1, rfl⟩; rewrite [S1.out]
    go_wp2_with fail
    refine (turn_calls _ _ _ (turnL xs [(i : Int), (k : Int)]) _ _ _ [(k : Int), (i : Int)] _ (hm2.rd.below (by repeat (first | exact Below.refl _ _ | apply Bw.alloc | apply Bw.drewN | (refine Bw.step ?_ (by assumption))))) (by omega) (by omega) (r_two _ _ _ _ (by simp)) (by omega) (by omega)).mono ?_; rintro e w4 ⟨A4, rfl, hm4, hb4⟩
    go_wp2_with fail
    refine (samesyms_calls _ _ _ _ _ _ _ xs _ hm4.rd (HR.out.below (by repeat (first | exact Below.refl _ _ | apply Bw.alloc | apply Bw.drewN | (refine Bw.step ?_ (by assumption))))) (by omega) hc (by omega)).mono ?_; rintro e w' ⟨rfl, q2, rfl⟩; rewrite [S2.out]
    go_wp2_with fail
    refine (turn_calls _ _ _ (turnL xs [(i : Int)]) _ _ _ [(k : Int)] _ (hm1.rd.below (by repeat (first | exact Below.refl _ _ | apply Bw.alloc | apply Bw.drewN | (refine Bw.step ?_ (by assumption))))) (by omega) (by omega) (r_one _ _ _ (by simp)) (by omega) (by omega)).mono ?_; rintro e w5 ⟨A5, rfl, hm5, hb5⟩
    go_wp2_with fail
    refine (samesyms_calls _ _ _ _ _ _ _ (turnL xs [(i : Int), (k : Int)]) _ hm5.rd (hm2.rd.below (by repeat (first | exact Below.refl _ _ | apply Bw.alloc | apply Bw.drewN | (refine Bw.step ?_ (by assumption))))) (by omega) (by omega) (by omega)).mono ?_; rintro e w' ⟨rfl, q3, rfl⟩; rewrite [S3.out]
    go_wp2_with fail
    refine (wholes_calls _ _ _ xs _ (HR.out.below (by repeat (first | exact Below.refl _ _ | apply Bw.alloc | apply Bw.drewN | (refine Bw.step ?_ (by assumption))))) hc (by omega)).mono ?_; rintro e w' ⟨rfl, rfl⟩
    go_wp2_with fail
    refine (wholes_calls _ _ _ (turnL xs [(i : Int), (k : Int)]) _ (hm2.rd.below (by repeat (first | exact Below.refl _ _ | apply Bw.alloc | apply Bw.drewN | (refine Bw.step ?_ (by assumption))))) (by omega) (by omega)).mono ?_; rintro e w' ⟨rfl, rfl⟩; rewrite [S4.out]
    go_wp2_with fail
    go_loopg [9] n (fun g v w' => ∃ j : Nat, g + j = n ∧ v = .int .i64 j ∧ Below w.heap.size w w' ∧ Rd w' .u8 A1 n (turnL xs [(i : Int)]))
    case atStart => exact ⟨0, rfl, rfl, (by repeat (first | exact Below.refl _ _ | apply Bw.alloc | apply Bw.drewN | (refine Bw.step ?_ (by assumption)))), hm1.rd.below (by repeat (first | exact Below.refl _ _ | apply Bw.alloc | apply Bw.drewN | (refine Bw.step ?_ (by assumption))))⟩
    case round =>
      clear hm1 hm2 hm3 hm4 hm5 hb1 hb2 hb3 hb4 hb5
      obtain ⟨j, hj, rfl, hb, hx⟩ := hrel
      by_cases hlt : j < n
      · obtain ⟨g', rfl⟩ : ∃ g', gk = g' + 1 := ⟨gk - 1, by omega⟩
        obtain ⟨b1, o1, rfl, hcell⟩ := (HR.out.below hb).at_ j hlt
        obtain ⟨b2, o2, rfl, hcell2⟩ := hx.at_ j hlt
        have hgt := turn1_gt xs (i : Int) j (by rw [HL.out]; exact hlt)
        rw [show turnL xs [(i : Int)] = turn1 xs i from rfl] at hcell2 hx
        rw [hgt] at hcell2
        clear hgt
        have HX := Lib.hid hx
        have HB := Lib.hid hb
        clear hx hb
        generalize gt xs j = x at *
        have h3 : x = 1 ∨ x = 2 ∨ ((x == 1) = false ∧ (x == 2) = false) := by
          by_cases h1 : x = 1
          · exact .inl h1
          · by_cases h2 : x = 2
            · exact .inr (.inl h2)
            · exact .inr (.inr ⟨by simp; exact h1, by simp; exact h2⟩)
        by_cases hij : (i : Int) = (j : Int)
        · have hji : ((j : Int) == (i : Int)) = true := by simp; omega
          rw [if_pos hij] at hcell2
          rcases h3 with rfl | rfl | ⟨hf1, hf2⟩
          · rw [show flip 1 = 2 from by decide] at hcell2
            go_wp2
            go_quiet (fail)
            go_wp2
            go_roundg g'
            case measure => omega
            case rel => exact ⟨j + 1, by omega, by go_num, Bw.drewN HB.out _, HX.out.drewN _⟩
          · rw [show flip 2 = 1 from by decide] at hcell2
            go_wp2
            go_quiet (fail)
            go_wp2
            go_roundg g'
            case measure => omega
            case rel => exact ⟨j + 1, by omega, by go_num, Bw.drewN HB.out _, HX.out.drewN _⟩
          · have hfl : flip x = x := by unfold flip wholeB; rw [hf1, hf2]; rfl
            rw [hfl] at hcell2
            clear hfl
            go_wp2
            go_quiet (fail)
            go_wp2
            go_roundg g'
            case measure => omega
            case rel => exact ⟨j + 1, by omega, by go_num, Bw.drewN HB.out _, HX.out.drewN _⟩
        · have hji : ((j : Int) == (i : Int)) = false := by simp; omega
          rw [if_neg hij] at hcell2
          rcases h3 with rfl | rfl | ⟨hf1, hf2⟩
          all_goals
            go_wp2
            go_quiet (fail)
            go_wp2
            go_roundg g'
            case measure => omega
            case rel => exact ⟨j + 1, by omega, by go_num, Bw.drewN HB.out _, HX.out.drewN _⟩
      · go_wp2_with (go_at_call 27; refine (lives01 _).mono ?_; rintro e w6 ⟨rfl, hb6⟩)
        go_ret
        exact ⟨rfl, (by repeat (first | exact Below.refl _ _ | apply Bw.alloc | apply Bw.drewN | (refine Bw.step ?_ (by assumption))))⟩
end Go.Proofs.Ytnmhhjgiakijgaa
