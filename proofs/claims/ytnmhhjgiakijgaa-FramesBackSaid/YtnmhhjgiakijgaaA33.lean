/- Sameness of payloads, frames, tails. -/
import Derived.Test.YtnmhhjgiakijgaaA23
import Derived.Laws.StructEq
namespace Go.Proofs.Ytnmhhjgiakijgaa
open Go.RowKit
set_option linter.unusedVariables false
set_option linter.unusedSimpArgs false

set_option maxRecDepth 20000 in
theorem eq82d (n : Nat) (a b c d a' b' c' d' : Int) (w : World) : (Op.equalIn (n + 2) 82 (.agg #[.int .u8 a, .int .u8 b, .int .u32 c, .int .u32 d]) (.agg #[.int .u8 a', .int .u8 b', .int .u32 c', .int .u32 d'])).run Try.prog w = .ok (a == a' && b == b' && c == c' && d == d') w := by
  have u79 := Try.underlying79
  have a79 := Try.isAgg79
  have z79 := Try.sizeOf79
  have u5 := Try.underlying5
  have a5 := Try.isAgg5
  have z5 := Try.sizeOf5
  have u80 := Try.underlying80
  have a80 := Try.isAgg80
  have z80 := Try.sizeOf80
  have hS : Try.prog.underlying 82 = some (.struct (Try.prog.fieldsOf 82)) := by kernel_rfl
  have hp : Try.prog.stoodInHeld 82 = false := by kernel_rfl
  rw [show n + 2 = (n + 1) + 1 from rfl, run_equalIn_agg w (n + 1) 82 _ _ hS hp]
  simp only [Program.fieldsOf, Try.underlying82]
  go_simp
  by_cases h0 : a = a' <;> by_cases h1 : b = b' <;> by_cases h2 : c = c' <;> by_cases h3 : d = d' <;> simp [h0, h1, h2, h3]
@[go_sem] theorem eq82 (a b c d a' b' c' d' : Int) (w : World) : (Op.equalIn 10000 82 (.agg #[.int .u8 a, .int .u8 b, .int .u32 c, .int .u32 d]) (.agg #[.int .u8 a', .int .u8 b', .int .u32 c', .int .u32 d'])).run Try.prog w = .ok (a == a' && b == b' && c == c' && d == d') w := eq82d 9998 ..

set_option maxRecDepth 20000 in
@[go_sem] theorem eq89 (a b c d e a' b' c' d' e' : Int) (w : World) : (Op.equalIn 10000 89 (.agg #[.int .i64 a, .int .u8 b, .int .u8 c, .int .u32 d, .int .u32 e]) (.agg #[.int .i64 a', .int .u8 b', .int .u8 c', .int .u32 d', .int .u32 e'])).run Try.prog w = .ok (a == a' && (b == b' && c == c' && d == d' && e == e')) w := by
  have u3 := Try.underlying3
  have a3 := Try.isAgg3
  have z3 := Try.sizeOf3
  have u82 := Try.underlying82
  have a82 := Try.isAgg82
  have z82 := Try.sizeOf82
  have hS : Try.prog.underlying 89 = some (.struct (Try.prog.fieldsOf 89)) := by kernel_rfl
  have hp : Try.prog.stoodInHeld 89 = false := by kernel_rfl
  have hE := fun w => eq82d 9997 b c d e b' c' d' e' w
  rw [show (10000 : Nat) = 9999 + 1 from rfl, run_equalIn_agg w 9999 89 _ _ hS hp]
  simp only [Program.fieldsOf, Try.underlying89]
  go_simp
  by_cases h0 : a = a' <;> by_cases h1 : b = b' <;> by_cases h2 : c = c' <;> by_cases h3 : d = d' <;> by_cases h4 : e = e' <;> simp [h0, h1, h2, h3, h4]
set_option maxRecDepth 20000 in
@[go_sem] theorem eq93 (a b a' b' : Bool) (w : World) : (Op.equalIn 10000 93 (.agg #[.bool a, .bool b]) (.agg #[.bool a', .bool b'])).run Try.prog w = .ok (a == a' && b == b') w := by
  have u4 := Try.underlying4
  have a4 := Try.isAgg4
  have z4 := Try.sizeOf4
  have hS : Try.prog.underlying 93 = some (.struct (Try.prog.fieldsOf 93)) := by kernel_rfl
  have hp : Try.prog.stoodInHeld 93 = false := by kernel_rfl
  rw [show (10000 : Nat) = 9999 + 1 from rfl, run_equalIn_agg w 9999 93 _ _ hS hp]
  simp only [Program.fieldsOf, Try.underlying93]
  go_simp
  cases a <;> cases b <;> cases a' <;> cases b' <;> simp

set_option maxHeartbeats 800000 in
set_option maxRecDepth 20000 in
theorem same69_calls (o : Int) (k s q v : Nat) (w : World) :
    Calls Try.prog 69 #[.agg #[.int .i64 o, .int .u8 k, .int .u8 s, .int .u32 q, .int .u32 v], .agg #[.int .i64 o, .int .u8 k, .int .u8 s, .int .u32 q, .int .u32 v]] w fun e w' => e = .returned (.bool true) ∧ Below w.heap.size w w' := by
  go_enter Try.func69, Try.ntmps69
  go_wp2
  go_ret
  exact ⟨rfl, (by repeat (first | exact Below.refl _ _ | apply Bw.alloc | apply Bw.drewN | apply Bw.drew | (refine Bw.step ?_ (by assumption))))⟩
end Go.Proofs.Ytnmhhjgiakijgaa
