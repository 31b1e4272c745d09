/- BitsBack: what the call returns. -/
import Derived.Test.YtnmhhjgiakijgaaA11
import Derived.Test.YtnmhhjgiakijgaaM5
namespace Go.Proofs.Ytnmhhjgiakijgaa
open Go.RowKit
set_option linter.unusedVariables false

/-- a number's lower bits -/
def md (p k : Nat) : Nat := p % 2 ^ k
theorem md_64 {p : Nat} (h : p < 18446744073709551616) : md p 64 = p := Nat.mod_eq_of_lt h
theorem wrap_pow {k : Nat} (h : k < 64) : IntKind.u64.wrap ((2 : Int) ^ k) = 2 ^ k := by
  rw [wrap_u64]
  have h1 : (2 : Nat) ^ k < 2 ^ 64 := Nat.pow_lt_pow_right (by omega) h
  have h2 : ((2 : Int) ^ k) = ((2 ^ k : Nat) : Int) := by simp
  rw [h2]
  exact Int.emod_eq_of_lt (Int.natCast_nonneg _) (by omega)
theorem md_cast (p k : Nat) : (p : Int) % 2 ^ k = ((md p k : Nat) : Int) := by simp [md]

theorem put2_calls (A : Option Addr) (n c : Nat) (xs : List Int) (N : Nat) (b : Int) (w : World) (hr : Rd w .u8 A n xs) (hc : n ≤ c) (hn : n ≤ 60000) (hN : N < 18446744073709551616) :
    Calls Try.prog 31 #[.slice A n c, .int .u64 N, .int .i64 b] w fun e w' => ∃ A', e = .returned (.slice A' (n + many b) (n + many b)) ∧ Mn w' w.heap.size 50 1 (.slice A' (n + many b) (n + many b)) (n + many b) (nums .u8 (putA xs N b)) ∧ Below w.heap.size w w' :=
  (put_calls A n c xs N b w hr hc hn hN).mono fun e w' ⟨A', m, he, hm, h1, h2⟩ => by subst hm; exact ⟨A', he, h1, h2⟩

set_option maxHeartbeats 3200000 in
set_option maxRecDepth 20000 in
theorem back_walk (A : Option Addr) (n c : Nat) (bs : List Int) (p q : Nat) (w : World) (hr : Rd w .u8 A n bs) (hc : n ≤ c) (hx : bytesOk bs) (hp : p < 18446744073709551616) (hq : q ≤ 65535) :
    Calls Try.prog 8 #[.slice A n c, .int .u64 p, .int .u16 q] w fun e w' => e = .returned (.bool true) ∧ Below w.heap.size w w' := by
  have HR := Lib.hid hr
  have HL := Lib.hid hr.len
  have HX := Lib.hid hx
  have HP := Lib.hid hp
  clear hr hx hp
  by_cases h0 : 500 < n
  · go_enter Try.func8, Try.ntmps8
    go_wp2_with (go_at_call 27; refine (lives01 _).mono ?_; rintro e w1 ⟨rfl, hb1⟩)
    go_ret
    exact ⟨rfl, (by repeat (first | exact Below.refl _ _ | apply Bw.alloc | apply Bw.drewN | apply Bw.drew | (refine Bw.step ?_ (by assumption))))⟩
  · have h1 : n ≤ 500 := by omega
    clear h0
    have HB := Lib.hid (byV_of bs HX.out)
    have HW := Lib.hid (wholeL_of bs)
    have HS := Lib.hid (sameL_self bs)
    have HOL := Lib.hid (ofL_length bs)
    go_enter Try.func8, Try.ntmps8
    go_wp2_with fail
    refine (of_calls _ _ _ bs _ (HR.out.below (by repeat (first | exact Below.refl _ _ | apply Bw.alloc | apply Bw.drewN | apply Bw.drew | (refine Bw.step ?_ (by assumption))))) hc (by omega) HX.out).mono ?_; rintro e w1 ⟨A1, m1, rfl, hl1, hm1, hb1⟩; subst hl1
    go_wp2_with fail
    refine (bytes_calls _ _ _ (ofL bs) _ hm1.rd (Nat.le_refl _) hm1.cap_le (by omega)).mono ?_
    rintro e w2 ⟨A2, m2, rfl, hl2, hm2, hb2⟩
    rewrite [HB.out.1]
    rw [HB.out.2] at hm2 hl2
    have hl2' : m2 = n := by rw [hl2, HL.out]
    subst hl2'
    clear hl2
    go_wp2_with fail
    refine (samebytes_calls _ _ _ _ _ _ bs bs _ (HR.out.below (by repeat (first | exact Below.refl _ _ | apply Bw.alloc | apply Bw.drewN | apply Bw.drew | (refine Bw.step ?_ (by assumption))))) (hm2.rd.below (by repeat (first | exact Below.refl _ _ | apply Bw.alloc | apply Bw.drewN | apply Bw.drew | (refine Bw.step ?_ (by assumption))))) HX.out HX.out).mono ?_; rintro e w' ⟨rfl, rfl⟩; rewrite [HS.out]
    go_wp2_with fail
    refine (wholes_calls _ _ _ (ofL bs) _ (hm1.rd.below (by repeat (first | exact Below.refl _ _ | apply Bw.alloc | apply Bw.drewN | apply Bw.drew | (refine Bw.step ?_ (by assumption))))) (Nat.le_refl _) (by omega)).mono ?_; rintro e w' ⟨rfl, rfl⟩; rewrite [HW.out]
    go_wp2_with fail
    go_loopw [10] (fun v w' => ∃ k : Nat, k ≤ 65 ∧ v = .int .i64 k ∧ Below w.heap.size w w' ∧ Mn w' w.heap.size 50 1 (.slice A1 (8 * m2) (8 * m2)) (8 * m2) (nums .u8 (ofL bs))) (fun v _ => 65 - (intOf v).toNat)
    case atStart => exact ⟨0, by omega, rfl, (by repeat (first | exact Below.refl _ _ | apply Bw.alloc | apply Bw.drewN | apply Bw.drew | (refine Bw.step ?_ (by assumption)))), hm1.below (by repeat (first | exact Below.refl _ _ | apply Bw.alloc | apply Bw.drewN | apply Bw.drew | (refine Bw.step ?_ (by assumption))))⟩
    case round =>
      clear hm1 hm2 hb1 hb2
      obtain ⟨k, hk, rfl, hb, hm⟩ := hrel
      by_cases hlt : k ≤ 64
      · have HPO := Lib.hid (put_ok p k hlt)
        have HPV := Lib.hid (show numV (putA [] p (k : Int)) = md p k from put_v p k hlt)
        have HMC := Lib.hid (many_cast k hlt)
        go_wp2_with fail
        refine (put2_calls none 0 0 [] p (k : Int) _ Rd.nil (Nat.le_refl _) (by omega) HP.out).mono ?_; rintro e w3 ⟨A3, rfl, hm3, hb3⟩; rewrite [HMC.out]; rw [HMC.out] at hm3
        go_wp2_with fail
        rw [Nat.zero_add] at hm3
        refine (num_calls _ _ _ (putA [] p (k : Int)) _ hm3.rd (Nat.le_refl _) (by omega)).mono ?_; rintro e w' ⟨rfl, rfl⟩; rewrite [HPO.out, HPV.out]
        by_cases hk64 : k = 64
        · subst hk64
          have hmd : ((md p 64 : Nat) : Int) = (p : Int) := by rw [md_64 HP.out]
          have hmd2 : (((md p 64 : Nat) : Int) != (p : Int)) = false := by rw [hmd]; simp
          clear hmd
          go_wp2
          go_roundw
          case rel => exact ⟨65, by omega, by first | rfl | go_num, (by repeat (first | exact Below.refl _ _ | apply Bw.alloc | apply Bw.drewN | apply Bw.drew | (refine Bw.step ?_ (by assumption)))), hm.below (by repeat (first | exact Below.refl _ _ | apply Bw.alloc | apply Bw.drewN | apply Bw.drew | (refine Bw.step ?_ (by assumption))))⟩
          case measure => simp [intOf]
        · have hlt64 : k < 64 := by omega
          have hw1 := wrap_pow hlt64
          have hw2 := md_cast p k
          go_wp2
          go_roundw
          case rel => exact ⟨k + 1, by omega, by go_num, (by repeat (first | exact Below.refl _ _ | apply Bw.alloc | apply Bw.drewN | apply Bw.drew | (refine Bw.step ?_ (by assumption)))), hm.below (by repeat (first | exact Below.refl _ _ | apply Bw.alloc | apply Bw.drewN | apply Bw.drew | (refine Bw.step ?_ (by assumption))))⟩
          case measure => simp [intOf]; omega
      · by_cases hz : m2 = 0
        · subst hz
          go_wp2_with (go_at_call 27; refine (lives01 _).mono ?_; rintro e w4 ⟨rfl, hb4⟩)
          go_ret
          exact ⟨rfl, (by repeat (first | exact Below.refl _ _ | apply Bw.alloc | apply Bw.drewN | apply Bw.drew | (refine Bw.step ?_ (by assumption))))⟩
        · obtain ⟨i, hi⟩ : ∃ i : Nat, q % (8 * m2) = i := ⟨_, rfl⟩
          have hil : i < 8 * m2 := by rw [← hi]; exact Nat.mod_lt _ (by omega)
          have hi1 : (q : Int) % (8 * (m2 : Int)) = (i : Int) := by rw [← hi, Int.natCast_emod, Int.natCast_mul]; rfl
          have hi2 : (q : Int).tmod (8 * (m2 : Int)) = (i : Int) := by rw [Int.tmod_eq_emod_of_nonneg (by omega)]; exact hi1
          clear hi
          have hz2 : ((8 * (m2 : Int)) == 0) = false := by simp; omega
          obtain ⟨g, hg⟩ := hm.ex (by omega)
          subst hg
          obtain ⟨hci, hfi⟩ := hm.cellAt i hil
          have hgB := (hm.block (g := g) rfl).1
          have HG := Lib.hid hgB
          clear hgB
          have hm5 := hm.set i hil 0
          have hb5 := hb.setCell (p := ⟨g, i, none⟩) HG.out (.int .u8 0)
          have HF := Lib.hid (wholeL_set (ofL bs) i (by rw [HOL.out, HL.out]; exact hil))
          have HV := Lib.hid (byV_whole _ HF.out)
          have HPT := Lib.hid (set_part (ofL bs) i (by rw [HOL.out, HL.out]; exact hil))
          have HM5 := Lib.hid hm5
          have HB5 := Lib.hid hb5
          clear hm5 hb5 hm
          go_wp2_with fail
          clear hi1 hi2
          refine (bytes_calls _ _ _ ((ofL bs).set i 0) _ HM5.out.rd (Nat.le_refl _) HM5.out.cap_le (by omega)).mono ?_
          rintro e w6 ⟨A6, m6, rfl, hl6, hm6, hb6⟩
          rewrite [HV.out.1]
          have hm60 : m6 = 0 := by rw [hl6, HV.out.2]; rfl
          subst hm60
          clear hl6
          go_wp2_with fail
          have hpart := Rd.sub (HM5.out.rd.below hb6) i 1 (by omega)
          rw [HPT.out, Nat.zero_add] at hpart
          refine (num_calls _ _ _ [0] _ hpart (by omega) (by omega)).mono ?_; rintro e w' ⟨rfl, rfl⟩; rewrite [show numOk [0] = false from by decide]
          go_wp2_with fail
          refine (wholes_calls _ _ _ ((ofL bs).set i 0) _ (HM5.out.rd.below hb6) (Nat.le_refl _) (by omega)).mono ?_; rintro e w' ⟨rfl, rfl⟩; rewrite [HF.out]
          go_wp2_with fail
          refine (lives01 _).mono ?_; rintro e w7 ⟨rfl, hb7⟩
          have hbe := Bw.step (Bw.step HB5.out hb6) hb7
          go_wp2
          go_ret
          exact ⟨rfl, hbe⟩
end Go.Proofs.Ytnmhhjgiakijgaa
