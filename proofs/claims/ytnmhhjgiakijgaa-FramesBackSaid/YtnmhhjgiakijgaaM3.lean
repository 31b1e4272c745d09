/- Plain words on numbers put as symbols and got back: no program in sight. -/
import Derived.Test.YtnmhhjgiakijgaaM2
namespace Go.Proofs.Ytnmhhjgiakijgaa

theorem shr_shr (N i j : Nat) : shr (shr N i) j = shr N (j + i) := by
  unfold shr
  rw [Nat.div_div_eq_div_mul, ← Nat.pow_add, Nat.add_comm]
theorem bitOf_shr (N l h : Nat) : bitOf (shr N l) h = bitOf N (h + l) := by unfold bitOf; rw [shr_shr]
theorem putL_add (N l h : Nat) : putL N (h + l) = putL (shr N l) h ++ putL N l := by
  induction h with
  | zero => simp [putL]
  | succ h ih =>
    rw [show h + 1 + l = (h + l) + 1 from by omega]
    show bitOf N (h + l) :: putL N (h + l) = (bitOf (shr N l) h :: putL (shr N l) h) ++ putL N l
    rw [ih, bitOf_shr]
    rfl
theorem numL_putL (b : Nat) : ∀ N, numL (putL N b) = N % 2 ^ b := by
  induction b with
  | zero => intro N; simp [putL, numL, Nat.mod_one]
  | succ b ih =>
    intro N
    have h1 : putL N (b + 1) = putL (shr N 1) b ++ [bitOf N 0] := putL_add N 1 b
    rw [h1, numL_snoc, ih]
    have h2 : bitOf N 0 = 1 + ((N % 2 : Nat) : Int) := by unfold bitOf low shr; simp
    have h3 : shr N 1 = N / 2 := by unfold shr; simp
    rw [h2, h3, Nat.pow_succ]
    have h4 : N % (2 ^ b * 2) = 2 * ((N / 2) % 2 ^ b) + N % 2 := by
      rw [Nat.mul_comm, Nat.mod_mul]
      omega
    rw [h4]
    omega
theorem wholeL_putL (N b : Nat) : wholeL (putL N b) = true := by
  induction b with
  | zero => rfl
  | succ b ih =>
    show (wholeB (bitOf N b) && wholeL (putL N b)) = true
    rw [ih]
    rcases bitOf_cases N b with h | h <;> rw [h] <;> rfl
theorem numOk_putL (N b : Nat) (hb : b ≤ 64) : numOk (putL N b) = true := by
  unfold numOk
  rw [putL_length, wholeL_putL]
  simp; exact hb
theorem numV_putL (N b : Nat) (hb : b ≤ 64) : numV (putL N b) = N % 2 ^ b := by
  unfold numV
  rw [if_pos (numOk_putL N b hb), numL_putL]

theorem ofL_append (a b : List Int) : ofL (a ++ b) = ofL a ++ ofL b := by simp [ofL]
theorem same_of (a b : List Int) : sameL (ofL (a ++ b)) (ofL a ++ ofL b) = true := sameL_eq (ofL_append a b)
/-- the symbols of byte i -/
theorem ofL_part (bs : List Int) (i : Nat) (h : i < bs.length) : ((ofL bs).drop (8 * i)).take 8 = putL (gt bs i).toNat 8 := by
  have h1 : bs = bs.take i ++ (gt bs i :: bs.drop (i + 1)) := by
    have : gt bs i = bs[i] := by simp [gt, List.getD_eq_getElem?_getD, List.getElem?_eq_getElem h]
    rw [this, ← List.drop_eq_getElem_cons h, List.take_append_drop]
  have h2 : ofL bs = ofL (bs.take i) ++ (putL (gt bs i).toNat 8 ++ ofL (bs.drop (i + 1))) := by
    conv => lhs; rw [h1]
    rw [ofL_append]
    rfl
  have h3 : (ofL (bs.take i)).length = 8 * i := by rw [ofL_length, List.length_take]; omega
  rw [h2, ← h3, List.drop_left, List.take_left' (putL_length _ _)]
theorem many_cast (k : Nat) (h : k ≤ 64) : many (k : Int) = k := by unfold many cut64; split <;> omega
theorem same_put (N l : Nat) (hl : l < 64) : sameL (putA (putA [] (shr N l) (64 - (l : Int))) N l) (putA [] N 64) = true := by
  refine sameL_eq ?_
  unfold putA
  rw [show (64 : Int) - (l : Int) = ((64 - l : Nat) : Int) from by omega, many_cast _ (by omega), many_cast _ (by omega), show (64 : Int) = ((64 : Nat) : Int) from rfl, many_cast 64 (by omega)]
  have := putL_add N l (64 - l)
  rw [show 64 - l + l = 64 from by omega] at this
  rw [this]
  simp
end Go.Proofs.Ytnmhhjgiakijgaa
