/- Plain words on bits and symbols: no program in sight. -/
namespace Go.Proofs.Ytnmhhjgiakijgaa

/-- element j of a list of numbers -/
def gt (xs : List Int) (j : Nat) : Int := xs.getD j 0

theorem gt_mem {xs : List Int} {j : Nat} (h : j < xs.length) : gt xs j ∈ xs := by
  unfold gt
  rw [List.getD_eq_getElem?_getD, List.getElem?_eq_getElem h]
  exact List.getElem_mem h

/-- a number shifted right -/
def shr (N i : Nat) : Nat := N / 2 ^ i
/-- its lowest bit -/
def low (N : Nat) : Nat := N % 2
theorem low_lt (N : Nat) : low N < 2 := Nat.mod_lt _ (by omega)
theorem shr_le (N i : Nat) : shr N i ≤ N := Nat.div_le_self _ _
theorem shr_zero (N : Nat) : shr N 0 = N := by simp [shr]
theorem shr_succ (N i : Nat) : shr N (i + 1) = shr N i / 2 := by simp [shr, Nat.pow_succ, Nat.div_div_eq_div_mul]

/-- the symbol of bit i of a number -/
def bitOf (N i : Nat) : Int := 1 + (low (shr N i) : Int)
theorem bitOf_cases (N i : Nat) : bitOf N i = 1 ∨ bitOf N i = 2 := by
  have := low_lt (shr N i)
  unfold bitOf
  omega

/-- the symbols of a number, of so many bits -/
def putL (N : Nat) : Nat → List Int
  | 0 => []
  | b + 1 => bitOf N b :: putL N b
theorem putL_length (N b : Nat) : (putL N b).length = b := by
  induction b with
  | zero => rfl
  | succ b ih => simp [putL, ih]

/-- how many bits are put -/
def cut64 (b : Int) : Int := if 64 < b then 64 else b
def many (b : Int) : Nat := (cut64 b).toNat
theorem cut64_le (b : Int) : cut64 b ≤ 64 := by unfold cut64; split <;> omega
theorem many_le (b : Int) : many b ≤ 64 := by have := cut64_le b; unfold many; omega

def putA (xs : List Int) (N : Nat) (b : Int) : List Int := xs ++ putL N (many b)
theorem putA_length (xs : List Int) (N : Nat) (b : Int) : (putA xs N b).length = xs.length + many b := by simp [putA, putL_length]

/-- is a symbol whole? are they? -/
def wholeB (x : Int) : Bool := x == 1 || x == 2
def wholeL (xs : List Int) : Bool := xs.all wholeB
theorem wholeL_iff (xs : List Int) : wholeL xs = true ↔ ∀ j, j < xs.length → wholeB (gt xs j) = true := by
  unfold wholeL
  rw [List.all_eq_true]
  constructor
  · intro h j hj
    exact h _ (gt_mem hj)
  · intro h x hx
    obtain ⟨j, hj, rfl⟩ := List.getElem_of_mem hx
    have := h j hj
    simpa [gt, List.getD_eq_getElem?_getD, List.getElem?_eq_getElem hj] using this
theorem wholeL_false {xs : List Int} {j : Nat} (hj : j < xs.length) (h : wholeB (gt xs j) = false) : wholeL xs = false := by
  cases hw : wholeL xs with
  | false => rfl
  | true => rw [(wholeL_iff xs).1 hw j hj] at h; cases h
theorem wholeB_cases {x : Int} (h : wholeB x = true) : x = 1 ∨ x = 2 := by
  unfold wholeB at h
  simpa using h

/-- the number of symbols -/
def numL (xs : List Int) : Nat := xs.foldl (fun n x => 2 * n + (x - 1).toNat) 0
theorem numL_snoc (xs : List Int) (x : Int) : numL (xs ++ [x]) = 2 * numL xs + (x - 1).toNat := by simp [numL]
theorem take_snoc (xs : List Int) (k : Nat) (h : k < xs.length) : xs.take (k + 1) = xs.take k ++ [gt xs k] := by
  rw [List.take_succ_eq_append_getElem h]
  simp [gt, List.getD_eq_getElem?_getD, List.getElem?_eq_getElem h]
theorem numL_take (xs : List Int) (k : Nat) (h : k < xs.length) : numL (xs.take (k + 1)) = 2 * numL (xs.take k) + (gt xs k - 1).toNat := by
  rw [take_snoc xs k h, numL_snoc]
theorem numL_lt (xs : List Int) (h : wholeL xs = true) : ∀ k, k ≤ xs.length → numL (xs.take k) < 2 ^ k := by
  intro k
  induction k with
  | zero => intro _; simp [numL]
  | succ k ih =>
    intro hk
    have h1 := ih (by omega)
    rw [numL_take xs k (by omega), Nat.pow_succ]
    have := wholeB_cases ((wholeL_iff xs).1 h k (by omega))
    omega
def numOk (xs : List Int) : Bool := decide (xs.length ≤ 64) && wholeL xs
def numV (xs : List Int) : Nat := if numOk xs = true then numL xs else 0
theorem numV_lt (xs : List Int) : numV xs < 2 ^ 64 := by
  unfold numV
  split
  · rename_i h
    unfold numOk at h
    simp only [Bool.and_eq_true, decide_eq_true_eq] at h
    have h1 := numL_lt xs h.2 xs.length (Nat.le_refl _)
    rw [List.take_length] at h1
    exact Nat.lt_of_lt_of_le h1 (Nat.pow_le_pow_right (by omega) h.1)
  · exact Nat.pow_pos (by omega)

/-- the symbols of bytes -/
def ofL (bs : List Int) : List Int := bs.flatMap fun x => putL x.toNat 8
theorem ofL_length (bs : List Int) : (ofL bs).length = 8 * bs.length := by
  induction bs with
  | nil => rfl
  | cons x bs ih =>
    have : ofL (x :: bs) = putL x.toNat 8 ++ ofL bs := rfl
    rw [this, List.length_append, ih, putL_length, List.length_cons]
    omega
theorem ofL_snoc (bs : List Int) (x : Int) : ofL (bs ++ [x]) = ofL bs ++ putL x.toNat 8 := by simp [ofL]
theorem ofL_take (bs : List Int) (k : Nat) (h : k < bs.length) : ofL (bs.take (k + 1)) = ofL (bs.take k) ++ putL (gt bs k).toNat 8 := by rw [take_snoc bs k h, ofL_snoc]
theorem many8 : many 8 = 8 := by decide
theorem putA_8 (xs : List Int) (N : Nat) : putA xs N 8 = xs ++ putL N 8 := by unfold putA; rw [many8]
/-- all are bytes -/
def bytesOk (bs : List Int) : Prop := ∀ x ∈ bs, 0 ≤ x ∧ x ≤ 255
theorem bytesOk_gt {bs : List Int} (h : bytesOk bs) {j : Nat} (hj : j < bs.length) : 0 ≤ gt bs j ∧ gt bs j ≤ 255 := h _ (gt_mem hj)
end Go.Proofs.Ytnmhhjgiakijgaa
