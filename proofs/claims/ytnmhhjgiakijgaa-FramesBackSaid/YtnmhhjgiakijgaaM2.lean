/- Plain words on what is turned twice: no program in sight. -/
import Derived.Test.YtnmhhjgiakijgaaM1
namespace Go.Proofs.Ytnmhhjgiakijgaa

/-- are lists the same? -/
def sameL (xs ys : List Int) : Bool := decide (xs = ys)
theorem sameL_self (xs : List Int) : sameL xs xs = true := decide_eq_true rfl
theorem sameL_eq {xs ys : List Int} (h : xs = ys) : sameL xs ys = true := decide_eq_true h

theorem turn1_turn1 (xs : List Int) (i : Int) : turn1 (turn1 xs i) i = xs := by
  refine gt_ext (by rw [turn1_length, turn1_length]) (fun j hj => ?_)
  rw [turn1_length, turn1_length] at hj
  rw [turn1_gt _ _ _ (by rw [turn1_length]; exact hj), turn1_gt _ _ _ hj]
  split
  · rw [flip_flip]
  · rfl
theorem twice_a (xs : List Int) (i : Int) : sameL (turnL (turnL xs [i]) [i]) xs = true := sameL_eq (turn1_turn1 xs i)
theorem twice_b (xs : List Int) (i k : Int) : sameL (turnL (turnL xs [i, k]) [k, i]) xs = true := by
  refine sameL_eq ?_
  show turn1 (turn1 (turn1 (turn1 xs i) k) k) i = xs
  rw [turn1_turn1, turn1_turn1]
theorem twice_c (xs : List Int) (i k : Int) : sameL (turnL (turnL xs [i]) [k]) (turnL xs [i, k]) = true := sameL_eq rfl
theorem wholeL_turn1 (xs : List Int) (i : Int) : wholeL (turn1 xs i) = wholeL xs := by
  rw [Bool.eq_iff_iff, wholeL_iff, wholeL_iff, turn1_length]
  constructor
  · intro h j hj
    have := h j hj
    rw [turn1_gt _ _ _ hj] at this
    split at this
    · rwa [wholeB_flip] at this
    · exact this
  · intro h j hj
    rw [turn1_gt _ _ _ hj]
    split
    · rw [wholeB_flip]; exact h j hj
    · exact h j hj
theorem wholeL_two (xs : List Int) (i k : Int) : wholeL (turnL xs [i, k]) = wholeL xs := by
  show wholeL (turn1 (turn1 xs i) k) = _
  rw [wholeL_turn1, wholeL_turn1]
end Go.Proofs.Ytnmhhjgiakijgaa
