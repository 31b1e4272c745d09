/- CatchesVoid: what the call returns. -/
import Derived.Test.YtnmhhjgiakijgaaE7
import Derived.Test.YtnmhhjgiakijgaaE8
namespace Go.Proofs.Ytnmhhjgiakijgaa
open Go.RowKit
set_option linter.unusedVariables false
set_option linter.unusedSimpArgs false

set_option maxHeartbeats 6400000 in
set_option maxRecDepth 20000 in
theorem void_walk (near far : Nat) (w : World) :
    Calls Try.prog 20 #[.int .u8 near, .int .u8 far] w fun e w' => e = .returned (.bool true) ∧ Below w.heap.size w w' := by
  have HW := Lib.hid (show Below w.heap.size w ((w.alloc (.cells #[.int .i64 0, .nilFunc, .slice none 0 0, .int .i64 0, .int .i64 0, .bool false, .bool false, .bool false] 146)).alloc (.cells #[.pointer none, .pointer (some ⟨w.heap.size, 0, none⟩)] 129)) from (by repeat (first | exact Below.refl _ _ | apply Bw.alloc | apply Bw.drewN | apply Bw.drew | (refine Bw.step ?_ (by assumption)))))
  have HZ := Lib.hid (show Blk ((w.alloc (.cells #[.int .i64 0, .nilFunc, .slice none 0 0, .int .i64 0, .int .i64 0, .bool false, .bool false, .bool false] 146)).alloc (.cells #[.pointer none, .pointer (some ⟨w.heap.size, 0, none⟩)] 129)) w.heap.size ctZ 146 from (Blk.new (w := w) rfl).below (by repeat (first | exact Below.refl _ _ | apply Bw.alloc | apply Bw.drewN | apply Bw.drew | (refine Bw.step ?_ (by assumption)))))
  have HL := Lib.hid (show Blk ((w.alloc (.cells #[.int .i64 0, .nilFunc, .slice none 0 0, .int .i64 0, .int .i64 0, .bool false, .bool false, .bool false] 146)).alloc (.cells #[.pointer none, .pointer (some ⟨w.heap.size, 0, none⟩)] 129)) (w.heap.size + 1) #[.pointer none, .pointer (some ⟨w.heap.size, 0, none⟩)] 129 from Blk.new (by simp))
  go_enter Try.func20, Try.ntmps20
  go_wp2_with fail
  generalize ((w.alloc (.cells #[.int .i64 0, .nilFunc, .slice none 0 0, .int .i64 0, .int .i64 0, .bool false, .bool false, .bool false] 146)).alloc (.cells #[.pointer none, .pointer (some ⟨w.heap.size, 0, none⟩)] 129)) = W at *
  go_loopw [7] (fun v wr => (v = .int .i64 0 ∨ v = .int .i64 1 ∨ v = .int .i64 2) ∧ Hid (Below W.heap.size W wr)) (fun v _ => 2 - (intOf v).toNat)
  case atStart => exact ⟨.inl rfl, Lib.hid (Below.refl _ _)⟩
  case round =>
    obtain ⟨hi, HB⟩ := hrel
    rcases hi with rfl | rfl | rfl
    · go_wp2
      go_loopw [8] (fun v wr => ∃ k : Nat, k ≤ 3 ∧ v = .int .i64 k ∧ Hid (Below W.heap.size W wr)) (fun v _ => 3 - (intOf v).toNat)
      case atStart => exact ⟨0, by omega, rfl, HB⟩
      case round =>
        obtain ⟨k, hk, rfl, HB2⟩ := hrel
        by_cases hlt : k < 3
        · have HC : Hid (∀ w', Below W.heap.size W w' → w'.cell? ⟨w.heap.size + 1, 0, none⟩ = some (.pointer none)) := fun w' h => (HL.out.below h).cell 0 _ rfl
          have c0 := HC.out _ HB2.out
          go_wp2_with fail
          refine (nhigh_calls _).mono ?_; rintro e w2 ⟨rfl, hb2⟩
          have HB3 := Lib.hid (show Below W.heap.size W (w2.alloc (.cells #[.int .i64 0, .int .u8 0, .int .u8 0, .int .u32 0, .int .u32 0] 89)) from Bw.alloc (Bw.step HB2.out hb2) _)
          have c1 := HC.out _ HB3.out
          clear hb2 c0
          go_wp2_with fail
          refine (nstep_calls near far _).mono ?_; rintro e w' ⟨rfl, rfl⟩
          go_wp2_with fail
          refine (nhad_calls _).mono ?_; rintro e w' ⟨rfl, rfl⟩
          go_wp2_with fail
          refine (nunlike_calls _).mono ?_; rintro e w' ⟨rfl, rfl⟩
          go_wp2
          go_roundw
          case rel => exact ⟨k + 1, by omega, by go_num, HB3⟩
          case measure => simp [intOf]; omega
        · go_wp2
          go_roundw
          case rel => exact ⟨.inr (.inl rfl), HB2⟩
          case measure => simp [intOf]
    · go_wp2
      go_loopw [8] (fun v wr => ∃ k : Nat, k ≤ 3 ∧ v = .int .i64 k ∧ Hid (Below W.heap.size W wr)) (fun v _ => 3 - (intOf v).toNat)
      case atStart => exact ⟨0, by omega, rfl, HB⟩
      case round =>
        obtain ⟨k, hk, rfl, HB2⟩ := hrel
        by_cases hlt : k < 3
        · have HC : Hid (∀ w', Below W.heap.size W w' → w'.cell? ⟨w.heap.size + 1, 1, none⟩ = some (.pointer (some ⟨w.heap.size, 0, none⟩)) ∧ Blk w' w.heap.size ctZ 146) := fun w' h => ⟨(HL.out.below h).cell 1 _ rfl, HZ.out.below h⟩
          obtain ⟨c0, z0⟩ := HC.out _ HB2.out
          have Z0 := Lib.hid z0
          clear z0
          go_wp2_with fail
          refine (zhigh_calls _ _ Z0.out).mono ?_; rintro e w2 ⟨rfl, hb2⟩
          have HB3 := Lib.hid (show Below W.heap.size W (w2.alloc (.cells #[.int .i64 0, .int .u8 0, .int .u8 0, .int .u32 0, .int .u32 0] 89)) from Bw.alloc (Bw.step HB2.out hb2) _)
          obtain ⟨c1, z1⟩ := HC.out _ HB3.out
          have Z1 := Lib.hid z1
          clear hb2 c0 z1
          go_wp2_with fail
          refine (zstep_calls _ near far _ Z1.out).mono ?_; rintro e w' ⟨rfl, rfl⟩
          go_wp2_with fail
          refine (zhad_calls _ _ Z1.out).mono ?_; rintro e w' ⟨rfl, rfl⟩
          go_wp2_with fail
          refine (zunlike_calls _ _ Z1.out).mono ?_; rintro e w' ⟨rfl, rfl⟩
          go_wp2
          go_roundw
          case rel => exact ⟨k + 1, by omega, by go_num, HB3⟩
          case measure => simp [intOf]; omega
        · go_wp2
          go_roundw
          case rel => exact ⟨.inr (.inr rfl), HB2⟩
          case measure => simp [intOf]
    · go_wp2_with fail
      refine (lives09 _).mono ?_; rintro e w2 ⟨rfl, hb2⟩
      go_wp2
      go_ret
      exact ⟨rfl, Bw.step HW.out (Bw.step HB.out hb2)⟩
end Go.Proofs.Ytnmhhjgiakijgaa
