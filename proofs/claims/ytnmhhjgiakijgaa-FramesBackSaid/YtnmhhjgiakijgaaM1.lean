/- Plain words on turned symbols: no program in sight. -/
import Derived.Test.YtnmhhjgiakijgaaM0
namespace Go.Proofs.Ytnmhhjgiakijgaa

theorem gt_ext {xs ys : List Int} (hl : xs.length = ys.length) (h : ∀ j, j < xs.length → gt xs j = gt ys j) : xs = ys := by
  apply List.ext_getElem hl
  intro j h1 h2
  have := h j h1
  simpa [gt, List.getD_eq_getElem?_getD, List.getElem?_eq_getElem h1, List.getElem?_eq_getElem h2] using this
theorem gt_set (xs : List Int) (i j : Nat) (x : Int) (hi : i < xs.length) : gt (xs.set i x) j = if i = j then x else gt xs j := by
  unfold gt
  rw [List.getD_eq_getElem?_getD, List.getD_eq_getElem?_getD, List.getElem?_set]
  split
  · rename_i h
    subst h
    simp
  · rfl
theorem gt_append_left (xs ys : List Int) (j : Nat) (h : j < xs.length) : gt (xs ++ ys) j = gt xs j := by
  unfold gt
  rw [List.getD_eq_getElem?_getD, List.getD_eq_getElem?_getD, List.getElem?_append_left h]
theorem gt_append_right (xs ys : List Int) (j : Nat) (h : xs.length ≤ j) : gt (xs ++ ys) j = gt ys (j - xs.length) := by
  unfold gt
  rw [List.getD_eq_getElem?_getD, List.getD_eq_getElem?_getD, List.getElem?_append_right h]

/-- a symbol turned -/
def flip (x : Int) : Int := if wholeB x = true then 3 - x else x
theorem flip_flip (x : Int) : flip (flip x) = x := by
  unfold flip
  cases h : wholeB x with
  | false => simp [h]
  | true =>
    have h2 : wholeB (3 - x) = true := by
      rcases wholeB_cases h with rfl | rfl <;> decide
    simp [h2]
    omega
theorem wholeB_flip (x : Int) : wholeB (flip x) = wholeB x := by
  unfold flip
  cases h : wholeB x with
  | false => simp [h]
  | true =>
    simp only [if_true]
    rcases wholeB_cases h with rfl | rfl <;> decide

def turn1 (xs : List Int) (i : Int) : List Int := if 0 ≤ i ∧ i < xs.length then xs.set i.toNat (flip (gt xs i.toNat)) else xs
def turnL (xs : List Int) (at_ : List Int) : List Int := at_.foldl turn1 xs
theorem turn1_length (xs : List Int) (i : Int) : (turn1 xs i).length = xs.length := by
  unfold turn1
  split <;> simp
theorem turnL_length (xs at_ : List Int) : (turnL xs at_).length = xs.length := by
  induction at_ generalizing xs with
  | nil => rfl
  | cons i at_ ih => exact (ih (turn1 xs i)).trans (turn1_length xs i)
theorem turnL_snoc (xs at_ : List Int) (i : Int) : turnL xs (at_ ++ [i]) = turn1 (turnL xs at_) i := by simp [turnL]
theorem turnL_take (xs at_ : List Int) (k : Nat) (h : k < at_.length) : turnL xs (at_.take (k + 1)) = turn1 (turnL xs (at_.take k)) (gt at_ k) := by
  rw [take_snoc at_ k h, turnL_snoc]
theorem turn1_gt (xs : List Int) (i : Int) (j : Nat) (hj : j < xs.length) : gt (turn1 xs i) j = if i = (j : Int) then flip (gt xs j) else gt xs j := by
  unfold turn1
  split
  · rename_i h
    rw [gt_set _ _ _ _ (by omega)]
    by_cases e : i = (j : Int)
    · rw [if_pos (by omega), if_pos e]
      congr 2
      omega
    · rw [if_neg (by omega), if_neg e]
  · rename_i h
    rw [if_neg (by omega)]

/-- how often a place is turned -/
def times (at_ : List Int) (j : Nat) : Nat := (at_.filter fun i => i == (j : Int)).length
theorem times_snoc (at_ : List Int) (i : Int) (j : Nat) : times (at_ ++ [i]) j = times at_ j + if i = (j : Int) then 1 else 0 := by
  unfold times
  rw [List.filter_append, List.length_append]
  congr 1
  by_cases h : i = (j : Int) <;> simp [h]
theorem times_take (at_ : List Int) (k j : Nat) (h : k < at_.length) : times (at_.take (k + 1)) j = times (at_.take k) j + if gt at_ k = (j : Int) then 1 else 0 := by
  rw [take_snoc at_ k h, times_snoc]
theorem times_le (at_ : List Int) (j : Nat) : times at_ j ≤ at_.length := List.length_filter_le _ _
def oddly (k : Nat) (x : Int) : Int := if k % 2 = 1 then flip x else x
theorem oddly_succ (k : Nat) (x : Int) : oddly (k + 1) x = flip (oddly k x) := by
  unfold oddly
  by_cases h : k % 2 = 1
  · rw [if_neg (by omega), if_pos h, flip_flip]
  · rw [if_pos (by omega), if_neg h]
theorem turnL_gt (xs at_ : List Int) (j : Nat) (hj : j < xs.length) : ∀ k, k ≤ at_.length → gt (turnL xs (at_.take k)) j = oddly (times (at_.take k) j) (gt xs j) := by
  intro k
  induction k with
  | zero => intro _; simp [turnL, times, oddly]
  | succ k ih =>
    intro hk
    rw [turnL_take xs at_ k (by omega), turn1_gt _ _ _ (by rw [turnL_length]; exact hj), times_take at_ k j (by omega), ih (by omega)]
    by_cases e : gt at_ k = (j : Int)
    · rw [if_pos e, if_pos e, oddly_succ]
    · rw [if_neg e, if_neg e, Nat.add_zero]
theorem turnL_gt' (xs at_ : List Int) (j : Nat) (hj : j < xs.length) : gt (turnL xs at_) j = oddly (times at_ j) (gt xs j) := by
  have := turnL_gt xs at_ j hj at_.length (Nat.le_refl _)
  rwa [List.take_length] at this
/-- the first k turned symbols -/
theorem turnL_take_snoc (xs at_ : List Int) (k : Nat) (h : k < xs.length) : (turnL xs at_).take (k + 1) = (turnL xs at_).take k ++ [oddly (times at_ k) (gt xs k)] := by
  rw [take_snoc _ k (by rw [turnL_length]; exact h), turnL_gt' xs at_ k h]
theorem turnL_one (xs : List Int) (i : Int) : turnL xs [i] = turn1 xs i := rfl
theorem turnL_two (xs : List Int) (i k : Int) : turnL xs [i, k] = turn1 (turn1 xs i) k := rfl
theorem turnL_nil (xs : List Int) : turnL xs [] = xs := rfl
end Go.Proofs.Ytnmhhjgiakijgaa
