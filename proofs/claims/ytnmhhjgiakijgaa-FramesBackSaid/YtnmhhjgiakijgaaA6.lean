/- Symbols of bytes, by both texts; sameness of bytes: contracts. -/
import Derived.Test.YtnmhhjgiakijgaaA5
namespace Go.Proofs.Ytnmhhjgiakijgaa
open Go.RowKit
set_option linter.unusedVariables false

set_option maxHeartbeats 1600000 in
set_option maxRecDepth 20000 in
theorem of_calls (A : Option Addr) (n c : Nat) (bs : List Int) (w : World) (hr : Rd w .u8 A n bs) (hc : n ≤ c) (hn : n ≤ 7000) (hbs : bytesOk bs) :
    Calls Try.prog 41 #[.slice A n c] w fun e w' => ∃ A' m, e = .returned (.slice A' m m) ∧ m = 8 * n ∧ Mn w' w.heap.size 50 1 (.slice A' m m) m (nums .u8 (ofL bs)) ∧ Below w.heap.size w w' := by
  have HR := Lib.hid hr
  have HL := Lib.hid hr.len
  have HB := Lib.hid hbs
  clear hr hbs
  go_enter Try.func41, Try.ntmps41
  go_wp2
  go_loopw [3, 8] (fun v i wr => ∃ (k m c' : Nat) (A' : Option Addr), k ≤ n ∧ m = 8 * k ∧ i = .int .i64 k ∧ v = .slice A' m c' ∧ m ≤ c' ∧ Mn wr w.heap.size 50 1 (.slice A' m c') m (nums .u8 (ofL (bs.take k))) ∧ Below w.heap.size w wr)
    (fun _ i _ => n - (intOf i).toNat)
  case atStart => exact ⟨0, 0, 0, none, Nat.zero_le _, rfl, rfl, rfl, Nat.le_refl _, Mn.nil _ _ _ _, Below.refl _ _⟩
  case round =>
    obtain ⟨k, m, c', A', hk, hmk, rfl, rfl, hkc, hm, hb⟩ := hrel
    have HMK := Lib.hid hmk
    have hmb : m ≤ 56000 := by omega
    clear hmk
    by_cases hlt : k < n
    · obtain ⟨b1, o, rfl, hcell⟩ := (HR.out.below hb).at_ k hlt
      have h255 := bytesOk_gt HB.out (j := k) (by rw [HL.out]; exact hlt)
      have HT := Lib.hid (ofL_take bs k (by rw [HL.out]; exact hlt))
      obtain ⟨N, hN⟩ : ∃ N : Nat, gt bs k = N := ⟨(gt bs k).toNat, by omega⟩
      rw [hN] at hcell h255
      have HN := Lib.hid hN
      clear hN
      go_wp2_with (go_at_call 31; refine (put_calls _ _ _ _ N 8 _ hm.rd hkc (by omega) (by omega)).mono ?_; rintro e w2 ⟨A2, m2, rfl, hm2, hmn2, hb2⟩; have HM2 := Lib.hid hm2; clear hm2)
      go_roundw
      case rel => exact ⟨k + 1, m2, m2, A2, by omega, by rw [HM2.out, HMK.out, many8]; omega, by go_num, rfl, Nat.le_refl _, by
        rw [HT.out, HN.out, Int.toNat_natCast, ← putA_8]; exact hmn2.mono hb.size, hb.trans (hb2.mono hb.size)⟩
      case measure => simp [intOf]; omega
    · have e : k = n := by omega
      subst e
      rw [List.take_of_length_le (by rw [HL.out]; exact Nat.le_refl _)] at hm
      go_wp2_with (go_at_call 101; refine (clip50 _ _ _ _ hkc (Mn.cap_le hm)).mono ?_; rintro e w2 ⟨rfl, rfl⟩)
      go_ret
      exact ⟨_, _, rfl, HMK.out, hm.clip, hb⟩

set_option maxHeartbeats 1600000 in
set_option maxRecDepth 20000 in
theorem refof_calls (A : Option Addr) (n c : Nat) (bs : List Int) (w : World) (hr : Rd w .u8 A n bs) (hc : n ≤ c) (hn : n ≤ 7000) (hbs : bytesOk bs) :
    Calls Try.prog 46 #[.slice A n c] w fun e w' => ∃ A' m c', e = .returned (.slice A' m c') ∧ m = 8 * n ∧ m ≤ c' ∧ Mn w' w.heap.size 50 1 (.slice A' m c') m (nums .u8 (ofL bs)) ∧ Below w.heap.size w w' := by
  have HR := Lib.hid hr
  have HL := Lib.hid hr.len
  have HB := Lib.hid hbs
  clear hr hbs
  go_enter Try.func46, Try.ntmps46
  go_wp2
  go_loopw [3, 4] (fun v i wr => ∃ (k m c' : Nat) (A' : Option Addr), k ≤ n ∧ m = 8 * k ∧ i = .int .i64 k ∧ v = .slice A' m c' ∧ m ≤ c' ∧ Mn wr w.heap.size 50 1 (.slice A' m c') m (nums .u8 (ofL (bs.take k))) ∧ Below w.heap.size w wr)
    (fun _ i _ => n - (intOf i).toNat)
  case atStart => exact ⟨0, 0, 0, none, Nat.zero_le _, rfl, rfl, rfl, Nat.le_refl _, Mn.nil _ _ _ _, Below.refl _ _⟩
  case round =>
    obtain ⟨k, m, c', A', hk, hmk, rfl, rfl, hkc, hm, hb⟩ := hrel
    have HMK := Lib.hid hmk
    have hmb : m ≤ 56000 := by omega
    clear hmk
    by_cases hlt : k < n
    · obtain ⟨b1, o, rfl, hcell⟩ := (HR.out.below hb).at_ k hlt
      have hlt0 : b1 < w.heap.size := by
        obtain ⟨b2, o2, e2, hb2, _⟩ := Rv.at_ HR.out (by omega)
        injection e2 with e2
        injection e2 with e3 e4
        omega
      have h255 := bytesOk_gt HB.out (j := k) (by rw [HL.out]; exact hlt)
      have HT := Lib.hid (ofL_take bs k (by rw [HL.out]; exact hlt))
      obtain ⟨N, hN⟩ : ∃ N : Nat, gt bs k = N := ⟨(gt bs k).toNat, by omega⟩
      rw [hN] at hcell h255
      have HN := Lib.hid hN
      have HC := Lib.hid hcell
      clear hN hcell
      go_wp2
      obtain ⟨wo, hwo⟩ : ∃ wo : World, wo = wr := ⟨_, rfl⟩
      go_loopw [3, 5] (fun v i wq => ∃ (j m2 c2 : Nat) (A2 : Option Addr) (zs : List Int), j ≤ 8 ∧ m2 + j = m + 8 ∧ i = .int .i64 ((j : Int) - 1) ∧ v = .slice A2 m2 c2 ∧ m2 ≤ c2 ∧ Mn wq w.heap.size 50 1 (.slice A2 m2 c2) m2 (nums .u8 zs) ∧ Hid (zs ++ putL N j = ofL (bs.take k) ++ putL N 8) ∧ Below w.heap.size w wq ∧ Below w.heap.size wr wq)
        (fun _ i _ => (intOf i + 1).toNat)
      case atStart => exact ⟨8, m, c', A', ofL (bs.take k), by omega, by omega, rfl, rfl, hkc, hm, rfl, hb, Below.refl _ _⟩
      case round =>
        obtain ⟨j, m2, c2, A2, zs, hj, hmj, rfl, rfl, hmc, hm2, hzs, hb2, hbq⟩ := hrel
        by_cases hj0 : j = 0
        · subst hj0
          have e : m2 = m + 8 := by omega
          go_wp2
          go_roundw
          case rel => exact ⟨k + 1, m2, c2, A2, by omega, by rw [e, HMK.out]; omega, by go_num, rfl, hmc, by
            rw [HT.out, HN.out, Int.toNat_natCast, ← hzs.out]; simpa [putL] using hm2, hb2⟩
          case measure => simp [intOf]; omega
        · obtain ⟨L, rfl⟩ : ∃ L, j = L + 1 := ⟨j - 1, by omega⟩
          have eL : (((L + 1 : Nat) : Int) - 1) = (L : Int) := by omega
          rw [eL]
          clear eL hj0
          have hcell := (hbq.cell (p := ⟨b1, o + k, none⟩) hlt0).trans HC.out
          go_wp2_with (first
            | (go_at_call 102; refine (bit_calls _ _ (by omega) (by omega) _).mono ?_; rintro e w' ⟨rfl, rfl⟩)
            | (at_builtin
               refine wpList_append_mn _ rfl _ _ _ rfl w.heap.size 50 _ 1 1 Try.underlying22 info50 rfl (by omega) (.slice A2 m2 c2) m2 (nums .u8 zs) rfl (hm2.alloc _) _ 1 1 (nums .u8 [bitOf N L]) rfl rv_one (nums_one _ _) (by omega) (by omega) (by simp; have := hb2.size; omega) ?_
               intro A3 c3 w3 hc3 hm3 hg3 hat3))
          go_roundw
          case rel => exact ⟨L, m2 + 1, c3, A3, zs ++ [bitOf N L], by omega, by omega, by first | rfl | (congr 1; omega), rfl, hc3, by rw [nums_append]; exact hm3, by
            show _ = _
            rw [← hzs.out, List.append_assoc]; rfl, (hb2.alloc hb2.size _).grown hg3 (by simp; have := hb2.size; omega) (fun k hk => (hm2.block hk).1),
            (hbq.alloc hb2.size _).grown hg3 (by simp; have := hb2.size; omega) (fun k hk => (hm2.block hk).1)⟩
          case measure => simp [intOf]; try omega
    · have e : k = n := by omega
      subst e
      rw [List.take_of_length_le (by rw [HL.out]; exact Nat.le_refl _)] at hm
      go_wp2
      go_ret
      exact ⟨_, _, _, rfl, HMK.out, hkc, hm, hb⟩
end Go.Proofs.Ytnmhhjgiakijgaa
