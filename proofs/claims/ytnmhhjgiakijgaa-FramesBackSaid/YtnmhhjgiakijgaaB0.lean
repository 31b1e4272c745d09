/- Layer 1's examples: sennitlaw01.lives returns true. -/
import Derived.Test.YtnmhhjgiakijgaaA9
namespace Go.Proofs.Ytnmhhjgiakijgaa
open Go.RowKit
set_option linter.unusedVariables false

/-- 'Below' from one's own start on, step by step -/
theorem Bw.alloc {w W : World} (h : Below w.heap.size w W) (o : Obj) : Below w.heap.size w (W.alloc o) := Below.alloc h h.size o
theorem Bw.drewN {w W : World} (h : Below w.heap.size w W) (n : Nat) : Below w.heap.size w (W.drewN n) := ⟨h.os, h.tape, h.output, h.size, h.block⟩
theorem Bw.drew {w W : World} (h : Below w.heap.size w W) : Below w.heap.size w W.drew := ⟨h.os, h.tape, h.output, h.size, h.block⟩
theorem Bw.step {w W W' : World} (h : Below w.heap.size w W) (k : Below W.heap.size W W') : Below w.heap.size w W' := h.trans (k.mono h.size)

/-- numbers in a block of their own -/
theorem rd_cells {w : World} {e : TypeId} {k : IntKind} {a : Nat} (ha : a = w.heap.size) (xs : List Int) : Rd (w.alloc (.cells (nums k xs).toArray e)) k (some ⟨a, 0, none⟩) xs.length xs := by
  subst ha
  refine ⟨by rw [nums_length], fun _ => ⟨w.heap.size, 0, rfl, fun j u hu => ?_⟩⟩
  rw [Nat.zero_add, cell_of_row _ w.heap.size j (nums k xs).toArray e (0, 0) (heap_alloc_new w _)]
  simpa using hu

theorem r_one (w : World) (x : Int) (a : Nat) (ha : a = w.heap.size) : Rd (w.alloc (.cells #[.int .i64 x] 3)) .i64 (some ⟨a, 0, none⟩) 1 [x] := rd_cells ha [x]
theorem r_two (w : World) (x y : Int) (a : Nat) (ha : a = w.heap.size) : Rd (w.alloc (.cells #[.int .i64 x, .int .i64 y] 3)) .i64 (some ⟨a, 0, none⟩) 2 [x, y] := rd_cells ha [x, y]
theorem r_221 (w : World) (a : Nat) (ha : a = w.heap.size) : Rd (w.alloc (.cells #[.int .u8 2, .int .u8 2, .int .u8 1] 50)) .u8 (some ⟨a, 0, none⟩) 3 [2, 2, 1] := rd_cells ha [2, 2, 1]
theorem r_121 (w : World) (a : Nat) (ha : a = w.heap.size) : Rd (w.alloc (.cells #[.int .u8 1, .int .u8 2, .int .u8 1] 50)) .u8 (some ⟨a, 0, none⟩) 3 [1, 2, 1] := rd_cells ha [1, 2, 1]
theorem r_1212 (w : World) (a : Nat) (ha : a = w.heap.size) : Rd (w.alloc (.cells #[.int .u8 1, .int .u8 2, .int .u8 1, .int .u8 2] 50)) .u8 (some ⟨a, 0, none⟩) 4 [1, 2, 1, 2] := rd_cells ha [1, 2, 1, 2]
theorem r_eight (w : World) (a : Nat) (ha : a = w.heap.size) : Rd (w.alloc (.cells #[.int .u8 1, .int .u8 1, .int .u8 1, .int .u8 1, .int .u8 1, .int .u8 2, .int .u8 1, .int .u8 2] 50)) .u8 (some ⟨a, 0, none⟩) 8 [1, 1, 1, 1, 1, 2, 1, 2] := rd_cells ha [1, 1, 1, 1, 1, 2, 1, 2]
theorem r_5 (w : World) (a : Nat) (ha : a = w.heap.size) : Rd (w.alloc (.cells #[.int .u8 5] 5)) .u8 (some ⟨a, 0, none⟩) 1 [5] := rd_cells ha [5]
theorem r_0229 (w : World) (a : Nat) (ha : a = w.heap.size) : Rd (w.alloc (.cells #[.int .i64 0, .int .i64 2, .int .i64 2, .int .i64 9] 3)) .i64 (some ⟨a, 0, none⟩) 4 [0, 2, 2, 9] := rd_cells ha [0, 2, 2, 9]

set_option maxHeartbeats 3200000 in
set_option maxRecDepth 20000 in
theorem lives01 (w : World) : Calls Try.prog 27 #[] w fun e w' => e = .returned (.bool true) ∧ Below w.heap.size w w' := by
  have N1 := Lib.hid (show numV [2, 2, 1] = 6 by decide)
  have N2 := Lib.hid (show numOk [2, 2, 1] = true by decide)
  have S1 := Lib.hid (show sameL (ofL [5]) [1, 1, 1, 1, 1, 2, 1, 2] = true by decide)
  have S2 := Lib.hid (show sameL (putA [] 5 4) [1, 2, 1, 2] = true by decide)
  have S3 := Lib.hid (show sameL (turnL [2, 2, 1] [0, 2, 2, 9]) [1, 2, 1] = true by decide)
  go_enter Try.func27, Try.ntmps27
  go_wp2_with fail
  refine (num_calls _ 3 3 [2, 2, 1] _ (r_221 _ _ (by simp)) (by omega) (by omega)).mono ?_; rintro e w' ⟨rfl, rfl⟩; rewrite [N1.out, N2.out]
  go_wp2_with fail
  refine (of_calls _ 1 1 [5] _ (r_5 _ _ (by simp)) (by omega) (by omega) (by intro x hx; simp at hx; omega)).mono ?_; rintro e w1 ⟨A1, m1, rfl, hl1, hm1, hb1⟩; have HL1 := Lib.hid hl1; clear hl1
  go_wp2_with fail
  refine (samesyms_calls _ _ _ _ _ _ (ofL [5]) [1, 1, 1, 1, 1, 2, 1, 2] _ ((hm1.alloc _).rd) (r_eight _ _ (by simp)) (by omega) (by omega) (by have := HL1.out; omega)).mono ?_; rintro e w' ⟨rfl, q1, rfl⟩; rewrite [S1.out]
  go_wp2_with fail
  refine (put_calls _ _ _ [] 5 4 _ Rd.nil (by omega) (by omega) (by omega)).mono ?_; rintro e w2 ⟨A2, m2, rfl, hl2, hm2, hb2⟩; have HL2 := Lib.hid hl2; clear hl2
  go_wp2_with fail
  refine (samesyms_calls _ _ _ _ _ _ (putA [] 5 4) [1, 2, 1, 2] _ ((hm2.alloc _).rd) (r_1212 _ _ (by simp)) (by omega) (by omega) (by have := HL2.out; have := many_le 4; omega)).mono ?_; rintro e w' ⟨rfl, q2, rfl⟩; rewrite [S2.out]
  go_wp2_with fail
  refine (turn_calls _ _ _ [2, 2, 1] _ _ _ [0, 2, 2, 9] _ ((r_221 _ _ (by simp)).alloc _) (by omega) (by omega) (r_0229 _ _ (by simp)) (by omega) (by omega)).mono ?_; rintro e w3 ⟨A3, rfl, hm3, hb3⟩
  go_wp2_with fail
  refine (samesyms_calls _ _ _ _ _ _ (turnL [2, 2, 1] [0, 2, 2, 9]) [1, 2, 1] _ ((hm3.alloc _).rd) (r_121 _ _ (by simp)) (by omega) (by omega) (by omega)).mono ?_; rintro e w' ⟨rfl, q3, rfl⟩; rewrite [S3.out]
  go_wp2
  go_ret
  exact ⟨rfl, by repeat (first | exact Below.refl _ _ | apply Bw.alloc | apply Bw.drewN | (refine Bw.step ?_ (by assumption)))⟩
end Go.Proofs.Ytnmhhjgiakijgaa
