/- The reference's bytes of symbols: its contract. -/
import Derived.Test.YtnmhhjgiakijgaaA11
namespace Go.Proofs.Ytnmhhjgiakijgaa
open Go.RowKit
set_option linter.unusedVariables false

def RefBytesPost (w : World) (xs : List Int) (e : Ending) (w' : World) : Prop :=
  ∃ A' m c', e = .returned (.tuple #[.slice A' m c', .bool (byOk xs)]) ∧ m = (byV xs).length ∧ m ≤ c' ∧ Mn w' w.heap.size 5 1 (.slice A' m c') m (nums .u8 (byV xs)) ∧ Below w.heap.size w w'

theorem refBytes_none {w : World} {xs : List Int} (h : byOk xs = false ∧ byV xs = []) : RefBytesPost w xs (.returned (.tuple #[.slice none 0 0, .bool false])) w :=
  ⟨none, 0, 0, by rw [h.1], by rw [h.2]; rfl, Nat.le_refl _, by rw [h.2]; exact Mn.nil _ _ _ _, Below.refl _ _⟩

set_option maxHeartbeats 3200000 in
set_option maxRecDepth 20000 in
theorem refbytes_calls (A : Option Addr) (n c : Nat) (xs : List Int) (w : World) (hr : Rd w .u8 A n xs) (hc : n ≤ c) (hn : n ≤ 56000) : Calls Try.prog 45 #[.slice A n c] w (RefBytesPost w xs) := by
  have HR := Lib.hid hr
  have HL := Lib.hid hr.len
  clear hr
  have hm1 : (n : Int) % 8 = ((n % 8 : Nat) : Int) := by omega
  have hm2 : (n : Int).tmod 8 = ((n % 8 : Nat) : Int) := by rw [Int.tmod_eq_emod_of_nonneg (by omega)]; exact hm1
  by_cases h8 : n % 8 = 0
  · rw [h8] at hm1 hm2
    cases hw : wholeL xs with
    | false =>
      have HF := Lib.hid (byV_whole xs hw)
      go_enter Try.func45, Try.ntmps45
      go_wp2_with (go_at_call 49; refine (refwhole_calls _ _ _ xs _ HR.out hc (by omega)).mono ?_; rintro e w' ⟨rfl, rfl⟩; rewrite [hw])
      go_ret2
      exact refBytes_none HF.out
    | true =>
      obtain ⟨m, hm⟩ : ∃ m, n = 8 * m := ⟨n / 8, by omega⟩
      have HM := Lib.hid hm
      have HW := Lib.hid hw
      clear hm h8
      have HV := Lib.hid (byV_true xs m (by rw [HL.out, HM.out]) hw)
      go_enter Try.func45, Try.ntmps45
      go_wp2_with (go_at_call 49; refine (refwhole_calls _ _ _ xs _ HR.out hc (by omega)).mono ?_; rintro e w' ⟨rfl, rfl⟩; rewrite [hw])
      clear hm1 hm2 hw
      go_loopw [4, 5] (fun u v w' => ∃ (i k : Nat) (A' : Option Addr) (c' : Nat), v = .int .i64 i ∧ u = .slice A' k c' ∧ Hid (i = 8 * k ∧ k ≤ m) ∧ i ≤ n ∧ k ≤ c' ∧ Mn w' w.heap.size 5 1 (.slice A' k c') k (nums .u8 (bytesN xs k)) ∧ Below w.heap.size w w') (fun _ v _ => n - (intOf v).toNat)
      case atStart => exact ⟨0, 0, none, 0, rfl, rfl, ⟨rfl, Nat.zero_le _⟩, Nat.zero_le _, Nat.zero_le _, Mn.nil _ _ _ _, Below.refl _ _⟩
      case round =>
        obtain ⟨i, k, A1, c1, rfl, rfl, HI, hi, hc1, hmn, hb⟩ := hrel
        by_cases hlt : i < n
        · have hi8 : i + 8 ≤ n := by have := HI.out; have := HM.out; omega
          obtain ⟨b, o, rfl, -⟩ := HR.out.at_ i hlt
          have hpart := Rd.sub (HR.out.below hb) i 8 hi8
          rw [show (xs.drop i).take 8 = chunk xs k from by rw [HI.out.1]; rfl] at hpart
          have HPT := Lib.hid hpart
          have hcw : wholeL (chunk xs k) = true := (wholeL_chunks xs m (by rw [HL.out, HM.out])).1 HW.out k (by have := HI.out; have := HM.out; omega)
          have hck : 8 * k + 8 ≤ xs.length := by rw [HL.out, ← HI.out.1]; exact hi8
          have HK := Lib.hid hck
          have HNV := Lib.hid (numV_chunk xs k hck hcw)
          have hlt2 := numL_chunk_lt xs k hck hcw
          have HBO := Lib.hid (show byteOf xs k = (numL (chunk xs k) : Int) from rfl)
          have hk7 : k ≤ 7000 := by have := HI.out; omega
          clear hck hcw hpart
          go_wp2_with (first
            | (go_at_call 30; refine (refnum_calls _ _ _ (chunk xs k) _ HPT.out (by omega) (by omega)).mono ?_; rintro e w' ⟨rfl, rfl⟩; rewrite [HNV.out])
            | (at_builtin
               refine wpList_append_mn _ rfl _ _ _ rfl w.heap.size 5 _ 1 1 Try.underlying43 info5 rfl (by omega) (.slice A1 k c1) k (nums .u8 (bytesN xs k)) rfl (hmn.alloc _) _ 1 1 (nums .u8 [(numL (chunk xs k) : Int)]) rfl rv_one (nums_one _ _) (by omega) (by omega) (by have := hb.size; simp; omega) ?_
               intro A2 c2 w2 hc2 hm2 hg2 hat2
               have hm3 : Mn w2 w.heap.size 5 1 (.slice A2 (k + 1) c2) (k + 1) (nums .u8 (bytesN xs (k + 1))) := by rw [bytesN_succ, HBO.out, nums_append]; exact hm2
               have hb3 : Below w.heap.size w w2 := Below.grown (hb.alloc hb.size _) hg2 (by have := hb.size; simp; omega) (fun q hq => (hmn.block hq).1)
               clear hg2 hat2 hm2 hmn hb)
            | fail)
          go_roundw
          case rel => exact ⟨i + 8, k + 1, A2, c2, by go_num, rfl, ⟨by have := HI.out; omega, by have := HI.out; have := HM.out; omega⟩, hi8, hc2, hm3, hb3⟩
          case measure => simp [intOf]; omega
        · have hkm : k = m := by have := HI.out; have := HM.out; omega
          subst hkm
          go_wp2
          go_ret2
          exact ⟨A1, k, c1, by rw [HV.out.1]; rfl, by rw [HV.out.2, bytesN_length], hc1, by rw [HV.out.2]; exact hmn, hb⟩
  · have HF := Lib.hid (byV_odd xs (by rw [HL.out]; exact h8))
    have hne : (((n % 8 : Nat) : Int) != 0) = true := by simp; omega
    generalize n % 8 = r at *
    go_enter Try.func45, Try.ntmps45
    go_wp2
    go_ret2
    exact refBytes_none HF.out
end Go.Proofs.Ytnmhhjgiakijgaa
