/- Catches: a catch that is not there, and one that no call made. -/
import Derived.Test.YtnmhhjgiakijgaaD8
import Derived.Test.YtnmhhjgiakijgaaM13
namespace Go.Proofs.Ytnmhhjgiakijgaa
open Go.RowKit
set_option linter.unusedVariables false
set_option linter.unusedSimpArgs false

set_option maxHeartbeats 800000 in
set_option maxRecDepth 20000 in
theorem nstep_calls (near far : Nat) (w : World) : Calls Try.prog 80 #[.pointer none, .int .u8 near, .int .u8 far] w fun e w' => e = .returned (.int .u8 0) ∧ w = w' := by
  go_enter Try.func80, Try.ntmps80
  go_wp2
  go_ret
  exact ⟨rfl, rfl⟩
set_option maxHeartbeats 800000 in
set_option maxRecDepth 20000 in
theorem nhad_calls (w : World) : Calls Try.prog 82 #[.pointer none] w fun e w' => e = .returned (.int .i64 0) ∧ w = w' := by
  go_enter Try.func82, Try.ntmps82
  go_wp2
  go_ret
  exact ⟨rfl, rfl⟩
set_option maxHeartbeats 800000 in
set_option maxRecDepth 20000 in
theorem nhigh_calls (w : World) : Calls Try.prog 83 #[.pointer none] w fun e w' => e = .returned (.tuple #[.agg #[.int .i64 0, .int .u8 0, .int .u8 0, .int .u32 0, .int .u32 0], .bool false]) ∧ Below w.heap.size w w' := by
  go_enter Try.func83, Try.ntmps83
  go_wp2
  refine bodyPost_ret (v := .tuple #[.agg #[.int .i64 0, .int .u8 0, .int .u8 0, .int .u32 0, .int .u32 0], .bool false]) (by simp [results, Try.results83, go_sem]) rfl ?_
  exact ⟨rfl, (by repeat (first | exact Below.refl _ _ | apply Bw.alloc | apply Bw.drewN | apply Bw.drew | (refine Below.setCell ?_ (by first | exact Nat.le_refl _ | omega | (simp; omega)) _) | (refine Bw.step ?_ (by assumption))))⟩
set_option maxHeartbeats 800000 in
set_option maxRecDepth 20000 in
theorem nunlike_calls (w : World) : Calls Try.prog 85 #[.pointer none] w fun e w' => e = .returned (.int .i64 (-1)) ∧ w = w' := by
  go_enter Try.func85, Try.ntmps85
  go_wp2
  go_ret
  exact ⟨rfl, rfl⟩
/-- the zero catch -/
def ctZ : Array Value := #[.int .i64 0, .nilFunc, .slice none 0 0, .int .i64 0, .int .i64 0, .bool false, .bool false, .bool false]
set_option maxHeartbeats 800000 in
set_option maxRecDepth 20000 in
theorem zstep_calls (g near far : Nat) (w : World) (h : Blk w g ctZ 146) : Calls Try.prog 80 #[.pointer (some ⟨g, 0, none⟩), .int .u8 near, .int .u8 far] w fun e w' => e = .returned (.int .u8 0) ∧ w = w' := by
  have c1 := h.cell 1 .nilFunc rfl
  have c3 := h.cell 3 (.int .i64 0) rfl
  have c5 := h.cell 5 (.bool false) rfl
  have e2 : ∀ w, (binOp .eql 136 .nilFunc .nilFunc).run Try.prog w = .ok (.bool true) w := fun w => eql136 0 3 w
  clear h
  go_enter Try.func80, Try.ntmps80
  go_wp2
  go_ret
  exact ⟨rfl, rfl⟩
set_option maxHeartbeats 800000 in
set_option maxRecDepth 20000 in
theorem zhad_calls (g : Nat) (w : World) (h : Blk w g ctZ 146) : Calls Try.prog 82 #[.pointer (some ⟨g, 0, none⟩)] w fun e w' => e = .returned (.int .i64 0) ∧ w = w' := by
  have c3 := h.cell 3 (.int .i64 0) rfl
  clear h
  go_enter Try.func82, Try.ntmps82
  go_wp2
  go_ret
  exact ⟨rfl, rfl⟩
set_option maxHeartbeats 800000 in
set_option maxRecDepth 20000 in
theorem zhigh_calls (g : Nat) (w : World) (h : Blk w g ctZ 146) : Calls Try.prog 83 #[.pointer (some ⟨g, 0, none⟩)] w fun e w' => e = .returned (.tuple #[.agg #[.int .i64 0, .int .u8 0, .int .u8 0, .int .u32 0, .int .u32 0], .bool false]) ∧ Below w.heap.size w w' := by
  have c7 := (h.below (show Below w.heap.size w (w.alloc (.cells #[.int .i64 0, .int .u8 0, .int .u8 0, .int .u32 0, .int .u32 0] 89)) from (by repeat (first | exact Below.refl _ _ | apply Bw.alloc | apply Bw.drewN | apply Bw.drew | (refine Bw.step ?_ (by assumption)))))).cell 7 (.bool false) rfl
  clear h
  go_enter Try.func83, Try.ntmps83
  go_wp2
  refine bodyPost_ret (v := .tuple #[.agg #[.int .i64 0, .int .u8 0, .int .u8 0, .int .u32 0, .int .u32 0], .bool false]) (by simp [results, Try.results83, go_sem, *]) rfl ?_
  exact ⟨rfl, (by repeat (first | exact Below.refl _ _ | apply Bw.alloc | apply Bw.drewN | apply Bw.drew | (refine Below.setCell ?_ (by first | exact Nat.le_refl _ | omega | (simp; omega)) _) | (refine Bw.step ?_ (by assumption))))⟩
set_option maxHeartbeats 800000 in
set_option maxRecDepth 20000 in
theorem zunlike_calls (g : Nat) (w : World) (h : Blk w g ctZ 146) : Calls Try.prog 85 #[.pointer (some ⟨g, 0, none⟩)] w fun e w' => e = .returned (.int .i64 (-1)) ∧ w = w' := by
  have c0 := h.cell 0 (.int .i64 0) rfl
  have c1 := h.cell 1 .nilFunc rfl
  have c3 := h.cell 3 (.int .i64 0) rfl
  have e2 : ∀ w, (binOp .eql 136 .nilFunc .nilFunc).run Try.prog w = .ok (.bool true) w := fun w => eql136 0 3 w
  clear h
  go_enter Try.func85, Try.ntmps85
  go_wp2
  go_ret
  exact ⟨rfl, rfl⟩
end Go.Proofs.Ytnmhhjgiakijgaa
