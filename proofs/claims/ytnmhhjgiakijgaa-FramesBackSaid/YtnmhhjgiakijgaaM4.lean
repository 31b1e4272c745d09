/- Plain words on bytes of symbols: no program in sight. -/
import Derived.Test.YtnmhhjgiakijgaaM3
namespace Go.Proofs.Ytnmhhjgiakijgaa

/-- the eight symbols of byte k -/
def chunk (xs : List Int) (k : Nat) : List Int := (xs.drop (8 * k)).take 8
def byteOf (xs : List Int) (k : Nat) : Int := (numL (chunk xs k) : Int)
def bytesN (xs : List Int) (m : Nat) : List Int := (List.range m).map (byteOf xs)
theorem chunk_length (xs : List Int) (k : Nat) (h : 8 * k + 8 ≤ xs.length) : (chunk xs k).length = 8 := by
  unfold chunk
  rw [List.length_take, List.length_drop]
  omega
theorem chunk_gt (xs : List Int) (k j : Nat) (hj : j < 8) (_h : 8 * k + 8 ≤ xs.length) : gt (chunk xs k) j = gt xs (8 * k + j) := by
  unfold chunk gt
  rw [List.getD_eq_getElem?_getD, List.getD_eq_getElem?_getD, List.getElem?_take, if_pos hj, List.getElem?_drop]
theorem wholeL_chunks (xs : List Int) (m : Nat) (hm : xs.length = 8 * m) : wholeL xs = true ↔ ∀ k, k < m → wholeL (chunk xs k) = true := by
  rw [wholeL_iff]
  constructor
  · intro h k hk
    rw [wholeL_iff]
    intro j hj
    rw [chunk_length xs k (by omega)] at hj
    rw [chunk_gt xs k j hj (by omega)]
    exact h _ (by omega)
  · intro h j hj
    have h1 := (wholeL_iff _).1 (h (j / 8) (by omega)) (j % 8) (by rw [chunk_length xs _ (by omega)]; omega)
    rw [chunk_gt xs _ _ (by omega) (by omega), show 8 * (j / 8) + j % 8 = j from by omega] at h1
    exact h1
theorem wholeL_chunk_false (xs : List Int) (m k : Nat) (hm : xs.length = 8 * m) (hk : k < m) (h : wholeL (chunk xs k) = false) : wholeL xs = false := by
  cases hw : wholeL xs with
  | false => rfl
  | true => rw [(wholeL_chunks xs m hm).1 hw k hk] at h; cases h
theorem numL_chunk_lt (xs : List Int) (k : Nat) (h : 8 * k + 8 ≤ xs.length) (hw : wholeL (chunk xs k) = true) : numL (chunk xs k) < 256 := by
  have h1 := numL_lt _ hw (chunk xs k).length (Nat.le_refl _)
  rw [List.take_length, chunk_length xs k h] at h1
  exact h1
theorem numOk_chunk (xs : List Int) (k : Nat) (h : 8 * k + 8 ≤ xs.length) : numOk (chunk xs k) = wholeL (chunk xs k) := by
  unfold numOk
  rw [chunk_length xs k h]
  rfl
theorem numV_chunk (xs : List Int) (k : Nat) (h : 8 * k + 8 ≤ xs.length) (hw : wholeL (chunk xs k) = true) : numV (chunk xs k) = numL (chunk xs k) := by
  unfold numV
  rw [numOk_chunk xs k h, hw, if_pos rfl]

/-- are there bytes? which? -/
def byOk (xs : List Int) : Bool := decide (xs.length % 8 = 0) && wholeL xs
def byV (xs : List Int) : List Int := if byOk xs = true then bytesN xs (xs.length / 8) else []
theorem bytesN_length (xs : List Int) (m : Nat) : (bytesN xs m).length = m := by simp [bytesN]
theorem byV_true (xs : List Int) (m : Nat) (hm : xs.length = 8 * m) (hw : wholeL xs = true) : byOk xs = true ∧ byV xs = bytesN xs m := by
  have h1 : byOk xs = true := by unfold byOk; rw [hw]; simp; omega
  refine ⟨h1, ?_⟩
  unfold byV
  rw [if_pos h1, show xs.length / 8 = m from by omega]
theorem byV_whole (xs : List Int) (hw : wholeL xs = false) : byOk xs = false ∧ byV xs = [] := by
  have h1 : byOk xs = false := by unfold byOk; rw [hw]; simp
  exact ⟨h1, by unfold byV; rw [h1]; rfl⟩
theorem byV_odd (xs : List Int) (h : xs.length % 8 ≠ 0) : byOk xs = false ∧ byV xs = [] := by
  have h1 : byOk xs = false := by unfold byOk; simp [h]
  exact ⟨h1, by unfold byV; rw [h1]; rfl⟩
theorem bytesN_succ (xs : List Int) (k : Nat) : bytesN xs (k + 1) = bytesN xs k ++ [byteOf xs k] := by simp [bytesN, List.range_succ]
theorem byV_len (xs : List Int) : (byV xs).length ≤ xs.length / 8 := by
  unfold byV
  split
  · rw [bytesN_length]; exact Nat.le_refl _
  · simp
theorem byV_bytes (xs : List Int) : ∀ x ∈ byV xs, 0 ≤ x ∧ x ≤ 255 := by
  intro x hx
  unfold byV at hx
  split at hx
  · rename_i h
    unfold byOk at h
    simp only [Bool.and_eq_true, decide_eq_true_eq] at h
    simp only [bytesN, List.mem_map, List.mem_range] at hx
    obtain ⟨k, hk, rfl⟩ := hx
    have := numL_chunk_lt xs k (by omega) ((wholeL_chunks xs (xs.length / 8) (by omega)).1 h.2 k hk)
    unfold byteOf
    omega
  · cases hx
end Go.Proofs.Ytnmhhjgiakijgaa
