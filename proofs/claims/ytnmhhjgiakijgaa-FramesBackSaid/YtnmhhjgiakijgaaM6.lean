/- The checksum: a register of 32 bits, byte by byte, and the long division of the chapter: one number. -/
import Derived.Test.YtnmhhjgiakijgaaM5
namespace Go.Proofs.Ytnmhhjgiakijgaa
set_option linter.unusedVariables false

def poly32 : Nat := 79764919
/-- one step of the register -/
def regStep (r : Nat) : Nat := if r.testBit 31 = true then ((r * 2) % 4294967296) ^^^ poly32 else (r * 2) % 4294967296
def regSteps : Nat → Nat → Nat
  | 0, r => r
  | k + 1, r => regSteps k (regStep r)
/-- a byte enters the register -/
def regByte (r b : Nat) : Nat := regSteps 8 (r ^^^ (b * 16777216))
def regL (r : Nat) : List Int → Nat
  | [] => r
  | b :: bs => regL (regByte r b.toNat) bs
def sumL (bs : List Int) : Nat := 4294967295 ^^^ regL 4294967295 bs

theorem regL_append (bs cs : List Int) : ∀ r, regL r (bs ++ cs) = regL (regL r bs) cs := by
  induction bs with
  | nil => intro r; rfl
  | cons b bs ih => intro r; exact ih _
theorem regSteps_succ (k : Nat) : ∀ r, regSteps (k + 1) r = regStep (regSteps k r) := by
  induction k with
  | zero => intro r; rfl
  | succ k ih => intro r; exact ih (regStep r)

/-- one bit enters the register -/
def bitStep (r : Nat) (x : Bool) : Nat := ((r * 2) % 4294967296) ^^^ (if (r.testBit 31 ^^ x) = true then poly32 else 0)

theorem twice_testBit (r p : Nat) : ((r * 2) % 4294967296).testBit p = (decide (p < 32) && (decide (1 ≤ p) && r.testBit (p - 1))) := by
  rw [show (4294967296 : Nat) = 2 ^ 32 from rfl, Nat.testBit_mod_two_pow, show r * 2 = r <<< 1 from (Nat.shiftLeft_eq r 1).symm, Nat.testBit_shiftLeft]
theorem twice_xor (r s : Nat) : ((r ^^^ s) * 2) % 4294967296 = ((r * 2) % 4294967296) ^^^ ((s * 2) % 4294967296) := by
  refine Nat.eq_of_testBit_eq fun p => ?_
  simp only [Nat.testBit_xor, twice_testBit]
  cases decide (p < 32) <;> cases decide (1 ≤ p) <;> simp
theorem poly32_lt : poly32 < 4294967296 := by decide
theorem regStep_lt (r : Nat) : regStep r < 4294967296 := by
  unfold regStep
  split
  · exact Nat.xor_lt_two_pow (n := 32) (Nat.mod_lt _ (by decide)) poly32_lt
  · exact Nat.mod_lt _ (by decide)
theorem bitStep_lt (r : Nat) (x : Bool) : bitStep r x < 4294967296 := by
  unfold bitStep
  refine Nat.xor_lt_two_pow (n := 32) (Nat.mod_lt _ (by decide)) ?_
  split
  · exact poly32_lt
  · decide
theorem regSteps_lt (k : Nat) (r : Nat) (h : r < 4294967296) : regSteps k r < 4294967296 := by
  induction k with
  | zero => exact h
  | succ k ih => rw [regSteps_succ]; exact regStep_lt _
theorem regByte_lt (r b : Nat) (h : r < 4294967296) (hb : b ≤ 255) : regByte r b < 4294967296 :=
  regSteps_lt 8 _ (Nat.xor_lt_two_pow (n := 32) h (by omega))
theorem regL_lt (bs : List Int) (hb : bytesOk bs) : ∀ r, r < 4294967296 → regL r bs < 4294967296 := by
  induction bs with
  | nil => intro r h; exact h
  | cons b bs ih =>
    intro r h
    refine ih (fun x hx => hb x (List.mem_cons_of_mem _ hx)) _ (regByte_lt r _ h ?_)
    have := hb b List.mem_cons_self
    omega
theorem sumL_lt (bs : List Int) (hb : bytesOk bs) : sumL bs < 4294967296 :=
  Nat.xor_lt_two_pow (n := 32) (by decide) (regL_lt bs hb _ (by decide))

/-- the bits of a byte, the highest first -/
def byteBits (b k : Nat) : Bool := b.testBit (7 - k)
def bitSteps (b : Nat) : Nat → Nat → Nat
  | 0, r => r
  | k + 1, r => bitStep (bitSteps b k r) (byteBits b k)

theorem regSteps_bits (b : Nat) (hb : b ≤ 255) (r : Nat) : ∀ k, k ≤ 8 → regSteps k (r ^^^ (b * 16777216)) = bitSteps b k r ^^^ ((b * 16777216 * 2 ^ k) % 4294967296) := by
  intro k
  induction k with
  | zero =>
    intro _
    have : (b * 16777216 * 2 ^ 0) % 4294967296 = b * 16777216 := by rw [Nat.pow_zero, Nat.mul_one]; exact Nat.mod_eq_of_lt (by omega)
    rw [this]
    rfl
  | succ k ih =>
    intro hk
    rw [regSteps_succ, ih (by omega)]
    generalize hx : bitSteps b k r = x
    have hbs : bitSteps b (k + 1) r = bitStep x (byteBits b k) := by rw [← hx]; rfl
    rw [hbs]
    have hy : ((b * 16777216 * 2 ^ k) % 4294967296 * 2) % 4294967296 = (b * 16777216 * 2 ^ (k + 1)) % 4294967296 := by
      rw [Nat.mod_mul_mod, Nat.pow_succ, ← Nat.mul_assoc]
    have hbit : ((b * 16777216 * 2 ^ k) % 4294967296).testBit 31 = byteBits b k := by
      rw [show (4294967296 : Nat) = 2 ^ 32 from rfl, Nat.testBit_mod_two_pow, show b * 16777216 * 2 ^ k = b <<< (24 + k) from by rw [Nat.shiftLeft_eq, Nat.pow_add, ← Nat.mul_assoc], Nat.testBit_shiftLeft]
      unfold byteBits
      rw [show 31 - (24 + k) = 7 - k from by omega]
      simp
      intro _
      omega
    unfold regStep bitStep
    rw [Nat.testBit_xor, hbit, twice_xor, hy]
    split
    · rw [Nat.xor_assoc, Nat.xor_assoc, Nat.xor_comm _ poly32]
    · rw [Nat.xor_zero]
theorem regByte_bits (r b : Nat) (hb : b ≤ 255) : regByte r b = bitSteps b 8 r := by
  unfold regByte
  rw [regSteps_bits b hb r 8 (Nat.le_refl _), show b * 16777216 * 2 ^ 8 = b * 4294967296 from by omega, Nat.mul_mod_left, Nat.xor_zero]

/-- bit j of the bytes, and none behind them -/
def rawBit (bs : List Int) (j : Nat) : Bool := if j < 8 * bs.length then byteBits (gt bs (j / 8)).toNat (j % 8) else false
/-- the register behind i bits -/
def regAt (bs : List Int) : Nat → Nat
  | 0 => 4294967295
  | i + 1 => bitStep (regAt bs i) (rawBit bs i)

theorem regAt_byte (bs : List Int) (m : Nat) (hm : m < bs.length) : ∀ k, k ≤ 8 → regAt bs (8 * m + k) = bitSteps (gt bs m).toNat k (regAt bs (8 * m)) := by
  intro k
  induction k with
  | zero => intro _; rfl
  | succ k ih =>
    intro hk
    show bitStep (regAt bs (8 * m + k)) (rawBit bs (8 * m + k)) = _
    rw [ih (by omega)]
    have : rawBit bs (8 * m + k) = byteBits (gt bs m).toNat k := by
      unfold rawBit
      rw [if_pos (by omega), show (8 * m + k) / 8 = m from by omega, show (8 * m + k) % 8 = k from by omega]
    rw [this]
    rfl
theorem regAt_take (bs : List Int) (hb : bytesOk bs) : ∀ m, m ≤ bs.length → regAt bs (8 * m) = regL 4294967295 (bs.take m) := by
  intro m
  induction m with
  | zero => intro _; rfl
  | succ m ih =>
    intro hm
    rw [take_snoc bs m hm, regL_append, ← ih (by omega), show 8 * (m + 1) = 8 * m + 8 from by omega, regAt_byte bs m hm 8 (Nat.le_refl _)]
    have := bytesOk_gt hb (j := m) hm
    exact (regByte_bits _ _ (by omega)).symm
theorem regAt_all (bs : List Int) (hb : bytesOk bs) : regAt bs (8 * bs.length) = regL 4294967295 bs := by
  rw [regAt_take bs hb _ (Nat.le_refl _), List.take_length]

/-- the chapter's list of bits behind i steps of its division -/
def divAt (bs : List Int) : Nat → Nat → Bool
  | 0, j => rawBit bs j ^^ decide (j < 32)
  | i + 1, j => if divAt bs i i = true then (if j = i then false else divAt bs i j ^^ (decide (i + 1 ≤ j ∧ j ≤ i + 32) && poly32.testBit (i + 32 - j))) else divAt bs i j

theorem divAt_reg (bs : List Int) : ∀ i, (∀ p, p < 32 → divAt bs i (i + p) = ((regAt bs i).testBit (31 - p) ^^ rawBit bs (i + p))) ∧ (∀ j, i + 32 ≤ j → divAt bs i j = rawBit bs j) := by
  intro i
  induction i with
  | zero =>
    constructor
    · intro p hp
      show (rawBit bs (0 + p) ^^ decide (0 + p < 32)) = _
      rw [show (regAt bs 0).testBit (31 - p) = true from by
        show (4294967295 : Nat).testBit (31 - p) = true
        rw [show (4294967295 : Nat) = 2 ^ 32 - 1 from rfl, Nat.testBit_two_pow_sub_one]
        simp; omega, Bool.xor_comm]
      congr 1
      simp; omega
    · intro j hj
      show (rawBit bs j ^^ decide (j < 32)) = _
      rw [decide_eq_false (by omega), Bool.xor_false]
  | succ i ih =>
    have hh := ih.1 0 (by omega)
    rw [Nat.add_zero] at hh
    constructor
    · intro p hp
      have hold : divAt bs i (i + 1 + p) = (((regAt bs i * 2) % 4294967296).testBit (31 - p) ^^ rawBit bs (i + 1 + p)) := by
        rw [twice_testBit]
        by_cases h31 : p = 31
        · subst h31
          rw [ih.2 _ (by omega)]
          simp
        · rw [show i + 1 + p = i + (p + 1) from by omega, ih.1 (p + 1) (by omega), show 31 - p - 1 = 31 - (p + 1) from by omega, decide_eq_true (show 31 - p < 32 by omega), decide_eq_true (show 1 ≤ 31 - p by omega)]
          rfl
      have hreg : (regAt bs (i + 1)).testBit (31 - p) = (((regAt bs i * 2) % 4294967296).testBit (31 - p) ^^ (divAt bs i i && poly32.testBit (31 - p))) := by
        show (bitStep (regAt bs i) (rawBit bs i)).testBit (31 - p) = _
        unfold bitStep
        rw [Nat.testBit_xor, hh]
        congr 1
        cases ((regAt bs i).testBit (31 - 0) ^^ rawBit bs i) <;> simp
      rw [hreg]
      show (if divAt bs i i = true then (if i + 1 + p = i then false else divAt bs i (i + 1 + p) ^^ (decide (i + 1 ≤ i + 1 + p ∧ i + 1 + p ≤ i + 32) && poly32.testBit (i + 32 - (i + 1 + p)))) else divAt bs i (i + 1 + p)) = _
      rw [if_neg (show ¬ (i + 1 + p = i) by omega), hold, decide_eq_true (show i + 1 ≤ i + 1 + p ∧ i + 1 + p ≤ i + 32 by omega), show i + 32 - (i + 1 + p) = 31 - p from by omega]
      cases divAt bs i i
      · simp
      · simp only [if_true, Bool.true_and]
        rw [Bool.xor_assoc, Bool.xor_assoc, Bool.xor_comm (rawBit bs (i + 1 + p))]
    · intro j hj
      show (if divAt bs i i = true then (if j = i then false else divAt bs i j ^^ (decide (i + 1 ≤ j ∧ j ≤ i + 32) && poly32.testBit (i + 32 - j))) else divAt bs i j) = _
      rw [ih.2 j (by omega), if_neg (show ¬ (j = i) by omega), decide_eq_false (show ¬ (i + 1 ≤ j ∧ j ≤ i + 32) by omega)]
      simp
/-- at the end: the last 32 bits, each turned, are the sum -/
theorem divAt_sum (bs : List Int) (hb : bytesOk bs) (p : Nat) (hp : p < 32) : (!divAt bs (8 * bs.length) (8 * bs.length + p)) = (sumL bs).testBit (31 - p) := by
  rw [(divAt_reg bs _).1 p hp, regAt_all bs hb]
  have h0 : rawBit bs (8 * bs.length + p) = false := if_neg (by omega)
  rw [h0, Bool.xor_false]
  unfold sumL
  rw [Nat.testBit_xor, show (4294967295 : Nat) = 2 ^ 32 - 1 from rfl, Nat.testBit_two_pow_sub_one, decide_eq_true (by omega), Bool.true_xor]
end Go.Proofs.Ytnmhhjgiakijgaa
