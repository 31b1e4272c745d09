/- Bytes changed within 32 neighbouring bits have another sum: no program in sight. -/
import Derived.Test.YtnmhhjgiakijgaaM6
namespace Go.Proofs.Ytnmhhjgiakijgaa
set_option linter.unusedVariables false

theorem xor4 (a b c d : Nat) : (a ^^^ b) ^^^ (c ^^^ d) = (a ^^^ c) ^^^ (b ^^^ d) := by
  refine Nat.eq_of_testBit_eq fun p => ?_
  simp only [Nat.testBit_xor]
  cases a.testBit p <;> cases b.testBit p <;> cases c.testBit p <;> cases d.testBit p <;> rfl
theorem bitStep_lin (r s : Nat) (x y : Bool) : bitStep (r ^^^ s) (x ^^ y) = bitStep r x ^^^ bitStep s y := by
  unfold bitStep
  have h : ∀ a b : Bool, (if (a ^^ b) = true then poly32 else 0) = (if a = true then poly32 else 0) ^^^ (if b = true then poly32 else 0) := by
    intro a b; cases a <;> cases b <;> simp
  rw [twice_xor, Nat.testBit_xor, show ((r.testBit 31 ^^ s.testBit 31) ^^ (x ^^ y)) = ((r.testBit 31 ^^ x) ^^ (s.testBit 31 ^^ y)) from by cases r.testBit 31 <;> cases s.testBit 31 <;> cases x <;> cases y <;> rfl, h]
  exact xor4 _ _ _ _

/-- the register behind i bits, from r on -/
def runB (f : Nat → Bool) (r : Nat) : Nat → Nat
  | 0 => r
  | i + 1 => bitStep (runB f r i) (f i)
theorem runB_lin (f g : Nat → Bool) (r s : Nat) : ∀ i, runB (fun j => f j ^^ g j) (r ^^^ s) i = runB f r i ^^^ runB g s i := by
  intro i
  induction i with
  | zero => rfl
  | succ i ih =>
    show bitStep (runB (fun j => f j ^^ g j) (r ^^^ s) i) (f i ^^ g i) = _
    rw [ih, bitStep_lin]
    rfl
theorem runB_congr {f g : Nat → Bool} (r : Nat) : ∀ i, (∀ j, j < i → f j = g j) → runB f r i = runB g r i := by
  intro i
  induction i with
  | zero => intro _; rfl
  | succ i ih =>
    intro h
    show bitStep _ _ = bitStep _ _
    rw [ih fun j hj => h j (by omega), h i (by omega)]
theorem runB_add (f : Nat → Bool) (r i : Nat) : ∀ k, runB f r (i + k) = runB (fun j => f (i + j)) (runB f r i) k := by
  intro k
  induction k with
  | zero => rfl
  | succ k ih =>
    show bitStep (runB f r (i + k)) (f (i + k)) = _
    rw [ih]
    rfl
theorem runB_lt (f : Nat → Bool) (r : Nat) (hr : r < 4294967296) : ∀ i, runB f r i < 4294967296
  | 0 => hr
  | i + 1 => bitStep_lt _ _
theorem regAt_run (bs : List Int) : ∀ i, regAt bs i = runB (rawBit bs) 4294967295 i := by
  intro i
  induction i with
  | zero => rfl
  | succ i ih => show bitStep _ _ = bitStep _ _; rw [ih]
theorem bitStep_zero : bitStep 0 false = 0 := by decide
theorem runB_zero (f : Nat → Bool) : ∀ i, (∀ j, j < i → f j = false) → runB f 0 i = 0 := by
  intro i
  induction i with
  | zero => intro _; rfl
  | succ i ih =>
    intro h
    show bitStep _ _ = _
    rw [ih fun j hj => h j (by omega), h i (by omega), bitStep_zero]

theorem bitStep_0 (r : Nat) (x : Bool) : (bitStep r x).testBit 0 = (r.testBit 31 ^^ x) := by
  unfold bitStep
  rw [Nat.testBit_xor, twice_testBit]
  cases (r.testBit 31 ^^ x) <;> simp <;> decide
theorem bitStep_up (r : Nat) (x : Bool) (h : (bitStep r x).testBit 0 = false) (p : Nat) (hp : p < 31) : r.testBit p = (bitStep r x).testBit (p + 1) := by
  rw [bitStep_0] at h
  unfold bitStep
  rw [h, Nat.testBit_xor, twice_testBit, decide_eq_true (show p + 1 < 32 by omega), decide_eq_true (show 1 ≤ p + 1 by omega)]
  simp

/-- a window of 32 bits that leaves nothing in the register held nothing -/
theorem window (e : Nat → Bool) (a : Nat) (h0 : runB e 0 a = 0) (h : runB e 0 (a + 32) = 0) : ∀ j, j < 32 → e (a + j) = false := by
  have key : ∀ m, m ≤ 32 → (∀ p, p < 32 - m → (runB e 0 (a + (32 - m))).testBit p = false) ∧ (∀ j, j < m → (runB e 0 (a + (32 - m))).testBit (31 - j) = e (a + (32 - m) + j)) := by
    intro m
    induction m with
    | zero =>
      intro _
      refine ⟨fun p _ => ?_, fun j hj => absurd hj (by omega)⟩
      rw [Nat.sub_zero, h]
      exact Nat.zero_testBit _
    | succ m ih =>
      intro hm
      obtain ⟨i1, i2⟩ := ih (by omega)
      have es : 32 - m = (32 - (m + 1)) + 1 := by omega
      rw [es] at i1 i2
      have hs : runB e 0 (a + (32 - (m + 1) + 1)) = bitStep (runB e 0 (a + (32 - (m + 1)))) (e (a + (32 - (m + 1)))) := rfl
      rw [hs] at i1 i2
      have hz := i1 0 (by omega)
      have hb := hz
      rw [bitStep_0] at hb
      refine ⟨fun p hp => ?_, fun j hj => ?_⟩
      · rw [bitStep_up _ _ hz p (by omega)]
        exact i1 (p + 1) (by omega)
      · rcases Nat.eq_zero_or_pos j with rfl | hj0
        · rw [Nat.sub_zero, Nat.add_zero]
          cases hr : (runB e 0 (a + (32 - (m + 1)))).testBit 31 <;> cases hx : e (a + (32 - (m + 1))) <;> rw [hr, hx] at hb <;> first | rfl | cases hb
        · rw [bitStep_up _ _ hz (31 - j) (by omega), show 31 - j + 1 = 31 - (j - 1) from by omega, i2 (j - 1) (by omega), show a + (32 - (m + 1) + 1) + (j - 1) = a + (32 - (m + 1)) + j from by omega]
  intro j hj
  have := (key 32 (Nat.le_refl _)).2 j hj
  rw [Nat.sub_self, Nat.add_zero, h0, Nat.zero_testBit] at this
  exact this.symm
/-- bits of nothing lead to nothing from nothing alone -/
theorem back_zero (r : Nat) (hr : r < 4294967296) (h : bitStep r false = 0) : r = 0 := by
  have h0 : (bitStep r false).testBit 0 = false := by rw [h]; exact Nat.zero_testBit _
  have h31 := h0
  rw [bitStep_0, Bool.xor_false] at h31
  refine Nat.eq_of_testBit_eq fun p => ?_
  rw [Nat.zero_testBit]
  by_cases hp : p < 31
  · rw [bitStep_up _ _ h0 p hp, h, Nat.zero_testBit]
  · by_cases h1 : p = 31
    · rw [h1, h31]
    · exact Nat.testBit_lt_two_pow (Nat.lt_of_lt_of_le hr (Nat.pow_le_pow_right (n := 2) (by omega) (show 32 ≤ p by omega)))
theorem back_zeros (e : Nat → Bool) (i : Nat) : ∀ k, (∀ j, i ≤ j → j < i + k → e j = false) → runB e 0 (i + k) = 0 → runB e 0 i = 0 := by
  intro k
  induction k with
  | zero => intro _ h; exact h
  | succ k ih =>
    intro hz h
    refine ih (fun j h1 h2 => hz j h1 (by omega)) (back_zero _ (runB_lt _ _ (by decide) _) ?_)
    have h' : bitStep (runB e 0 (i + k)) (e (i + k)) = 0 := h
    rwa [hz (i + k) (by omega) (by omega)] at h'
/-- a burst within 32 bits that leaves nothing was none -/
theorem burst (e : Nat → Bool) (n a : Nat) (han : a + 32 ≤ n) (hout : ∀ j, j < n → (j < a ∨ a + 32 ≤ j) → e j = false) (h : runB e 0 n = 0) : ∀ j, j < n → e j = false := by
  have h0 : runB e 0 a = 0 := runB_zero e a fun j hj => hout j (by omega) (.inl hj)
  have h1 : runB e 0 (a + 32) = 0 := back_zeros e (a + 32) (n - (a + 32)) (fun j h1 h2 => hout j (by omega) (.inr h1)) (by rw [show a + 32 + (n - (a + 32)) = n from by omega]; exact h)
  intro j hj
  by_cases hw : j < a ∨ a + 32 ≤ j
  · exact hout j hj hw
  · have := window e a h0 h1 (j - a) (by omega)
    rwa [show a + (j - a) = j from by omega] at this

/-- the register's own bits, fed, leave nothing -/
theorem runB_self (r : Nat) (hr : r < 4294967296) : ∀ i, i ≤ 32 → runB (fun j => r.testBit (31 - j)) r i = (r * 2 ^ i) % 4294967296 := by
  intro i
  induction i with
  | zero => intro _; rw [Nat.pow_zero, Nat.mul_one]; exact (Nat.mod_eq_of_lt hr).symm
  | succ i ih =>
    intro hi
    show bitStep (runB (fun j => r.testBit (31 - j)) r i) (r.testBit (31 - i)) = _
    rw [ih (by omega)]
    have hb : ((r * 2 ^ i) % 4294967296).testBit 31 = r.testBit (31 - i) := by
      rw [show (4294967296 : Nat) = 2 ^ 32 from rfl, Nat.testBit_mod_two_pow, show r * 2 ^ i = r <<< i from (Nat.shiftLeft_eq r i).symm, Nat.testBit_shiftLeft, decide_eq_true (show 31 < 32 by omega), decide_eq_true (show 31 ≥ i by omega)]
      rfl
    unfold bitStep
    rw [hb, Bool.xor_self, if_neg (by decide), Nat.xor_zero, Nat.mod_mul_mod, Nat.pow_succ, Nat.mul_assoc]
theorem runB_self32 (r : Nat) (hr : r < 4294967296) : runB (fun j => r.testBit (31 - j)) r 32 = 0 := by
  rw [runB_self r hr 32 (Nat.le_refl _), show (2 : Nat) ^ 32 = 4294967296 from rfl, Nat.mul_mod_left]
/-- behind a register's complement all registers are one -/
theorem runB_whole (r : Nat) (hr : r < 4294967296) : runB (fun j => (4294967295 ^^^ r).testBit (31 - j)) r 32 = runB (fun j => (4294967295 : Nat).testBit (31 - j)) 0 32 := by
  have h1 := runB_lin (fun j => (4294967295 : Nat).testBit (31 - j)) (fun j => r.testBit (31 - j)) 0 r 32
  rw [runB_self32 r hr, Nat.xor_zero, Nat.zero_xor] at h1
  rw [← h1]
  exact runB_congr _ _ fun j _ => Nat.testBit_xor ..
end Go.Proofs.Ytnmhhjgiakijgaa
