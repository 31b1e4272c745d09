/- sums: the register's step. -/
import Derived.Test.YtnmhhjgiakijgaaM6
import Derived.Test.YtnmhhjgiakijgaaA13
namespace Go.Proofs.Ytnmhhjgiakijgaa
open Go.RowKit
set_option linter.unusedVariables false

theorem wrap_u32 (n : Int) : IntKind.u32.wrap n = n % 4294967296 := by simp [IntKind.wrap, IntKind.bits, IntKind.signed]
theorem bits_xor_u32 (a b : Nat) (ha : a < 4294967296) (hb : b < 4294967296) : bits .xor .u32 (a : Int) (b : Int) = ((a ^^^ b : Nat) : Int) := by
  have h : bits .xor .u32 (a : Int) (b : Int) = IntKind.u32.wrap ((BitVec.ofInt 32 (a : Int) ^^^ BitVec.ofInt 32 (b : Int)).toNat : Int) := rfl
  have h1 : BitVec.ofInt 32 (a : Int) = BitVec.ofNat 32 a := by simp
  have h2 : BitVec.ofInt 32 (b : Int) = BitVec.ofNat 32 b := by simp
  rw [h, h1, h2, BitVec.toNat_xor, BitVec.toNat_ofNat, BitVec.toNat_ofNat, Nat.mod_eq_of_lt ha, Nat.mod_eq_of_lt hb, wrap_u32]
  have : a ^^^ b < 2 ^ 32 := Nat.xor_lt_two_pow ha hb
  omega
theorem bits_and_u32 (a b : Nat) (ha : a < 4294967296) (hb : b < 4294967296) : bits .and .u32 (a : Int) (b : Int) = ((a &&& b : Nat) : Int) := by
  have h : bits .and .u32 (a : Int) (b : Int) = IntKind.u32.wrap ((BitVec.ofInt 32 (a : Int) &&& BitVec.ofInt 32 (b : Int)).toNat : Int) := rfl
  have h1 : BitVec.ofInt 32 (a : Int) = BitVec.ofNat 32 a := by simp
  have h2 : BitVec.ofInt 32 (b : Int) = BitVec.ofNat 32 b := by simp
  rw [h, h1, h2, BitVec.toNat_and, BitVec.toNat_ofNat, BitVec.toNat_ofNat, Nat.mod_eq_of_lt ha, Nat.mod_eq_of_lt hb, wrap_u32]
  have : a &&& b < 2 ^ 32 := Nat.and_lt_two_pow _ hb
  omega
theorem high_bit (r : Nat) (hr : r < 4294967296) : (bits .and .u32 (r : Int) 2147483648 != 0) = r.testBit 31 := by
  rw [show (2147483648 : Int) = ((2147483648 : Nat) : Int) from rfl, bits_and_u32 r _ hr (by decide)]
  have h : r &&& 2147483648 = if r.testBit 31 = true then 2147483648 else 0 := by
    refine Nat.eq_of_testBit_eq fun p => ?_
    rw [Nat.testBit_and, show (2147483648 : Nat) = 2 ^ 31 from rfl, Nat.testBit_two_pow]
    by_cases hp : 31 = p
    · subst hp
      cases r.testBit 31
      · simp
      · simp only [if_true, Bool.true_and]
        rfl
    · rw [decide_eq_false hp, Bool.and_false]
      split
      · rw [Nat.testBit_two_pow, decide_eq_false hp]
      · simp
  rw [h]
  cases r.testBit 31 <;> simp

/-- a register's block -/
def Reg (w : World) (g r : Nat) : Prop := w.heap[g]? = some (.cells #[.int .u32 r] 265 (0, 0))
theorem Reg.cell {w : World} {g r : Nat} (h : Reg w g r) : w.cell? ⟨g, 0, none⟩ = some (.int .u32 r) := cell_of_row w g 0 _ 265 (0, 0) h
theorem Reg.frozen {w : World} {g r : Nat} (h : Reg w g r) : w.frozen? ⟨g, 0, none⟩ = false := by simp [World.frozen?, show w.heap[g]? = _ from h]
theorem Reg.set {w : World} {g r : Nat} (h : Reg w g r) (s : Nat) : Reg (w.setCell ⟨g, 0, none⟩ (.int .u32 s)) g s := setCell_row w g 0 _ _ 265 h

set_option maxHeartbeats 1600000 in
set_option maxRecDepth 20000 in
theorem add_calls (g r b : Nat) (w : World) (h : Reg w g r) (hr : r < 4294967296) (hb : b ≤ 255) :
    Calls Try.prog 178 #[.pointer (some ⟨g, 0, none⟩), .int .u8 b] w fun e w' => e = .returned (.tuple #[]) ∧ Reg w' g (regByte r b) ∧ Below g w w' := by
  have c0 := h.cell
  have f0 := h.frozen
  have H := Lib.hid h
  clear h
  obtain ⟨s, hs⟩ : ∃ s, s = r ^^^ (b * 16777216) := ⟨_, rfl⟩
  have hx : bits .xor .u32 (r : Int) ((b : Int) * 16777216) = (s : Int) := by
    rw [hs, show (b : Int) * 16777216 = ((b * 16777216 : Nat) : Int) from by omega]
    exact bits_xor_u32 r (b * 16777216) hr (by omega)
  have hsl : s < 4294967296 := by rw [hs]; exact Nat.xor_lt_two_pow (n := 32) hr (by omega)
  have HS := Lib.hid hs
  clear hs
  go_enter Try.func178, Try.ntmps178
  go_wp2
  clear hx
  have h1 := H.out.set s
  have hb1 : Below g w (w.setCell ⟨g, 0, none⟩ (.int .u32 s)) := (Below.refl g w).setCell (p := ⟨g, 0, none⟩) (Nat.le_refl _) _
  clear c0 f0
  go_loopw [13] (fun v w' => ∃ k : Nat, k ≤ 8 ∧ v = .int .i64 k ∧ Reg w' g (regSteps k s) ∧ Below g w w') (fun v _ => 8 - (intOf v).toNat)
  case atStart => exact ⟨0, Nat.zero_le _, rfl, h1, hb1⟩
  case round =>
    obtain ⟨k, hk, rfl, hreg, hbel⟩ := hrel
    by_cases hlt : k < 8
    · have hxl := regSteps_lt k s hsl
      have HN := Lib.hid (regSteps_succ k s)
      generalize regSteps k s = x at *
      have c1 := hreg.cell
      have f1 := hreg.frozen
      have hh := high_bit x hxl
      obtain ⟨y, hy⟩ : ∃ y, y = (x * 2) % 4294967296 := ⟨_, rfl⟩
      have hyi : (x : Int) * 2 % 4294967296 = (y : Int) := by omega
      have hyl : y < 4294967296 := by omega
      have c2 := (hreg.set y).cell
      have f2 := (hreg.set y).frozen
      have hxx : bits .xor .u32 (y : Int) 79764919 = ((y ^^^ poly32 : Nat) : Int) := bits_xor_u32 y poly32 hyl poly32_lt
      have HR := Lib.hid hreg
      have HY := Lib.hid hy
      have HB := Lib.hid hbel
      clear hreg hy hbel
      cases ht : x.testBit 31 with
      | true =>
        rw [ht] at hh
        have hst : regStep x = y ^^^ poly32 := by unfold regStep; rw [if_pos ht, HY.out]
        generalize y ^^^ poly32 = z at *
        have HST := Lib.hid hst
        clear hst ht
        go_wp2
        go_roundw
        case rel => exact ⟨k + 1, by omega, by go_num, by rw [HN.out, HST.out]; exact (HR.out.set y).set z, (HB.out.setCell (p := ⟨g, 0, none⟩) (Nat.le_refl _) _).setCell (p := ⟨g, 0, none⟩) (Nat.le_refl _) _⟩
        case measure => simp [intOf]; omega
      | false =>
        rw [ht] at hh
        have hst : regStep x = y := by unfold regStep; rw [if_neg (by rw [ht]; simp), HY.out]
        have HST := Lib.hid hst
        clear hst ht
        go_wp2
        go_roundw
        case rel => exact ⟨k + 1, by omega, by go_num, by rw [HN.out, HST.out]; exact HR.out.set y, HB.out.setCell (p := ⟨g, 0, none⟩) (Nat.le_refl _) _⟩
        case measure => simp [intOf]; omega
    · have hk8 : k = 8 := by omega
      subst hk8
      go_wp2
      refine bodyPost_end (v := .tuple #[]) (by simp [results, Try.f178, go_sem]) rfl ?_
      exact ⟨rfl, by rw [HS.out] at hreg; exact hreg, hbel⟩
end Go.Proofs.Ytnmhhjgiakijgaa
