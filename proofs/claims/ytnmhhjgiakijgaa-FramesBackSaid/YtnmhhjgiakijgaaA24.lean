/- The reference's sum behind bytes: its contract. -/
import Derived.Test.YtnmhhjgiakijgaaA22
import Derived.Test.YtnmhhjgiakijgaaA23
namespace Go.Proofs.Ytnmhhjgiakijgaa
open Go.RowKit
set_option linter.unusedVariables false

/-- byte k of a number, the lowest one: 0 -/
def byAt (s k : Nat) : Int := (s : Int) / 2 ^ (8 * k) % 256
theorem be4_at (s : Nat) : be4 s = [byAt s 3, byAt s 2, byAt s 1, byAt s 0] := by simp [be4, byAt]
/-- the four bytes from the highest on, as far as byte k -/
def beTo (s : Nat) : Nat → List Int
  | 0 => [byAt s 3, byAt s 2, byAt s 1, byAt s 0]
  | 1 => [byAt s 3, byAt s 2, byAt s 1]
  | 2 => [byAt s 3, byAt s 2]
  | 3 => [byAt s 3]
  | _ => []
theorem beTo_step (s k : Nat) (h : k < 4) : beTo s k = beTo s (k + 1) ++ [byAt s k] := by
  have : k = 0 ∨ k = 1 ∨ k = 2 ∨ k = 3 := by omega
  rcases this with rfl | rfl | rfl | rfl <;> rfl

set_option maxHeartbeats 1600000 in
set_option maxRecDepth 20000 in
theorem refput2_calls (A : Option Addr) (n c : Nat) (bs : List Int) (w : World) (hr : Rd w .u8 A n bs) (hc : n ≤ c) (hn : n ≤ 5000) (hb : bytesOk bs) :
    Calls Try.prog 122 #[.slice A n c] w fun e w' => ∃ A' c', e = .returned (.slice A' (n + 4) c') ∧ n + 4 ≤ c' ∧ Mn w' w.heap.size 5 1 (.slice A' (n + 4) c') (n + 4) (nums .u8 (putS bs)) ∧ Below w.heap.size w w' := by
  have HR := Lib.hid hr
  have HB := Lib.hid hb
  have HS := Lib.hid (sumL_lt bs hb)
  clear hr hb
  go_enter Try.func122, Try.ntmps122
  go_wp2_with fail
  refine (refsum_calls _ _ _ bs _ HR.out hc hn HB.out).mono ?_; rintro e w1 ⟨rfl, hb1⟩
  obtain ⟨s, hs⟩ : ∃ s, s = sumL bs := ⟨_, rfl⟩
  rewrite [← hs]
  have HSS := Lib.hid (show putS bs = bs ++ beTo s 0 by rw [hs]; exact congrArg (bs ++ ·) (be4_at _))
  have hsl : s < 4294967296 := by rw [hs]; exact HS.out
  clear hs
  go_wp2_with (at_builtin; refine wpList_append_mn _ rfl _ _ _ rfl w.heap.size 5 _ 1 1 Try.underlying43 info5 rfl (by omega) (.slice none 0 0) 0 [] rfl (Mn.nil _ _ _ _) A n c (nums .u8 bs) rfl (by rw [Nat.mul_one]; exact HR.out.below hb1) (nums_one _ _) (by omega) (by omega) hb1.size ?_; intro A3 c3 w3 hc3 hm3 hg3 hat3; have hb3 : Below w.heap.size w w3 := hb1.grown hg3 hb1.size (fun q hq => by simp [Value.ownBlock] at hq); clear hg3 hat3 hb1)
  have hbe : Mn w3 w.heap.size 5 1 (.slice A3 n c3) n (nums .u8 (bs ++ beTo s 4)) := by
    rw [Nat.zero_add] at hm3
    simpa [beTo] using hm3
  have hc3' : n ≤ c3 := by omega
  clear hm3
  go_loopw [4, 5] (fun u v w' => ∃ (j l : Nat) (A' : Option Addr) (c' : Nat), j ≤ 4 ∧ v = .int .i64 ((j : Int) - 1) ∧ u = .slice A' l c' ∧ l ≤ c' ∧ l ≤ 6000 ∧ Hid (l + j = n + 4) ∧ Mn w' w.heap.size 5 1 (.slice A' l c') l (nums .u8 (bs ++ beTo s j)) ∧ Below w.heap.size w w') (fun _ v _ => (intOf v + 1).toNat)
  case atStart => exact ⟨4, n, A3, c3, Nat.le_refl _, rfl, by first | rfl | simp, hc3', by omega, Lib.hid rfl, hbe, hb3⟩
  case round =>
    clear hbe hb3 hc3 hc3'
    obtain ⟨j, l, A1, c1, hj, rfl, rfl, hlc, hl6, HL, hm1, hb1⟩ := hrel
    by_cases hj0 : j = 0
    · subst hj0
      have hl : l = n + 4 := HL.out
      subst hl
      go_wp2
      go_ret
      exact ⟨A1, c1, rfl, hlc, by rw [HSS.out]; exact hm1, hb1⟩
    · obtain ⟨k, rfl⟩ : ∃ k, j = k + 1 := ⟨j - 1, by omega⟩
      have eL : (((k + 1 : Nat) : Int) - 1) = (k : Int) := by omega
      rw [eL]
      clear eL hj0
      have HST := Lib.hid (beTo_step s k (by omega))
      have hk : k = 0 ∨ k = 1 ∨ k = 2 ∨ k = 3 := by omega
      rcases hk with rfl | rfl | rfl | rfl
      · have HZ := Lib.hid (show byAt s 0 = (s : Int) % 256 by simp only [byAt]; omega)
        go_wp2_with (at_builtin; refine wpList_append_mn _ rfl _ _ _ rfl w.heap.size 5 _ 1 1 Try.underlying43 info5 rfl (by omega) (.slice A1 l c1) l (nums .u8 (bs ++ beTo s (0 + 1))) rfl (hm1.alloc _) _ 1 1 (nums .u8 [(s : Int) % 256]) rfl rv_one (nums_one _ _) (by omega) (by omega) (by simp; have := hb1.size; omega) ?_; intro A3 c3 w3 hc3 hm3 hg3 hat3; have hb3 : Below w.heap.size w w3 := (hb1.alloc hb1.size _).grown hg3 (by simp; have := hb1.size; omega) (fun q hq => (hm1.block hq).1); clear hg3 hat3 hm1 hb1)
        go_roundw
        case rel => exact ⟨0, l + 1, A3, c3, by omega, by first | rfl | (congr 1; omega), rfl, hc3, by have := HL.out; omega, Lib.hid (by have := HL.out; omega), by rw [HST.out, HZ.out, ← List.append_assoc, nums_append]; exact hm3, hb3⟩
        case measure => simp [intOf]; try omega
      · have HZ := Lib.hid (show byAt s 1 = (s : Int) / 256 % 256 by simp only [byAt]; omega)
        go_wp2_with (at_builtin; refine wpList_append_mn _ rfl _ _ _ rfl w.heap.size 5 _ 1 1 Try.underlying43 info5 rfl (by omega) (.slice A1 l c1) l (nums .u8 (bs ++ beTo s (1 + 1))) rfl (hm1.alloc _) _ 1 1 (nums .u8 [(s : Int) / 256 % 256]) rfl rv_one (nums_one _ _) (by omega) (by omega) (by simp; have := hb1.size; omega) ?_; intro A3 c3 w3 hc3 hm3 hg3 hat3; have hb3 : Below w.heap.size w w3 := (hb1.alloc hb1.size _).grown hg3 (by simp; have := hb1.size; omega) (fun q hq => (hm1.block hq).1); clear hg3 hat3 hm1 hb1)
        go_roundw
        case rel => exact ⟨1, l + 1, A3, c3, by omega, by first | rfl | (congr 1; omega), rfl, hc3, by have := HL.out; omega, Lib.hid (by have := HL.out; omega), by rw [HST.out, HZ.out, ← List.append_assoc, nums_append]; exact hm3, hb3⟩
        case measure => simp [intOf]; try omega
      · have HZ := Lib.hid (show byAt s 2 = (s : Int) / 65536 % 256 by simp only [byAt]; omega)
        go_wp2_with (at_builtin; refine wpList_append_mn _ rfl _ _ _ rfl w.heap.size 5 _ 1 1 Try.underlying43 info5 rfl (by omega) (.slice A1 l c1) l (nums .u8 (bs ++ beTo s (2 + 1))) rfl (hm1.alloc _) _ 1 1 (nums .u8 [(s : Int) / 65536 % 256]) rfl rv_one (nums_one _ _) (by omega) (by omega) (by simp; have := hb1.size; omega) ?_; intro A3 c3 w3 hc3 hm3 hg3 hat3; have hb3 : Below w.heap.size w w3 := (hb1.alloc hb1.size _).grown hg3 (by simp; have := hb1.size; omega) (fun q hq => (hm1.block hq).1); clear hg3 hat3 hm1 hb1)
        go_roundw
        case rel => exact ⟨2, l + 1, A3, c3, by omega, by first | rfl | (congr 1; omega), rfl, hc3, by have := HL.out; omega, Lib.hid (by have := HL.out; omega), by rw [HST.out, HZ.out, ← List.append_assoc, nums_append]; exact hm3, hb3⟩
        case measure => simp [intOf]; try omega
      · have HZ := Lib.hid (show byAt s 3 = (s : Int) / 16777216 by simp only [byAt]; omega)
        go_wp2_with (at_builtin; refine wpList_append_mn _ rfl _ _ _ rfl w.heap.size 5 _ 1 1 Try.underlying43 info5 rfl (by omega) (.slice A1 l c1) l (nums .u8 (bs ++ beTo s (3 + 1))) rfl (hm1.alloc _) _ 1 1 (nums .u8 [(s : Int) / 16777216]) rfl rv_one (nums_one _ _) (by omega) (by omega) (by simp; have := hb1.size; omega) ?_; intro A3 c3 w3 hc3 hm3 hg3 hat3; have hb3 : Below w.heap.size w w3 := (hb1.alloc hb1.size _).grown hg3 (by simp; have := hb1.size; omega) (fun q hq => (hm1.block hq).1); clear hg3 hat3 hm1 hb1)
        go_roundw
        case rel => exact ⟨3, l + 1, A3, c3, by omega, by first | rfl | (congr 1; omega), rfl, hc3, by have := HL.out; omega, Lib.hid (by have := HL.out; omega), by rw [HST.out, HZ.out, ← List.append_assoc, nums_append]; exact hm3, hb3⟩
        case measure => simp [intOf]; try omega
end Go.Proofs.Ytnmhhjgiakijgaa
