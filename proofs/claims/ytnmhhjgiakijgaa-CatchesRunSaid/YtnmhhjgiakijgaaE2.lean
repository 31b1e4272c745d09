/- Catches, the document's: its catch in memory; its small functions. -/
import Derived.Test.YtnmhhjgiakijgaaD8
import Derived.Test.YtnmhhjgiakijgaaM13
namespace Go.Proofs.Ytnmhhjgiakijgaa
open Go.RowKit
set_option linter.unusedVariables false
set_option linter.unusedSimpArgs false

/-- the first n symbols that were had -/
def kl (x : Nat → Nat) (n : Nat) : List Int := (List.range n).map fun i => (x i : Int)
theorem kl_length (x : Nat → Nat) (n : Nat) : (kl x n).length = n := by simp [kl]
theorem kl_gt (x : Nat → Nat) {n i : Nat} (h : i < n) : gt (kl x n) i = x i := by
  unfold gt kl
  rw [List.getD_eq_getElem?_getD, List.getElem?_map, List.getElem?_range h]
  rfl
theorem kl_succ (x : Nat → Nat) (n : Nat) : kl x (n + 1) = kl x n ++ [(x n : Int)] := by simp [kl, List.range_succ]
/-- a catch of the document's, as far as it is read -/
structure RC (w : World) (g : Nat) (o : Int) (A1 A2 : Option Addr) (c1 c2 n : Nat) (x y : Nat → Nat) : Prop where
  blk : Blk w g #[.int .i64 o, .slice A1 n c1, .slice A2 n c2] 139
  r1 : Rd w .u8 A1 n (kl x n)
  r2 : Rd w .u8 A2 n (kl y n)
  k1 : n ≤ c1
  k2 : n ≤ c2
  hn : n ≤ 114
theorem RC.below {w w' : World} {g : Nat} {o : Int} {A1 A2 : Option Addr} {c1 c2 n : Nat} {x y : Nat → Nat} (h : RC w g o A1 A2 c1 c2 n x y) (hb : Below w.heap.size w w') : RC w' g o A1 A2 c1 c2 n x y :=
  ⟨h.blk.below hb, h.r1.below hb, h.r2.below hb, h.k1, h.k2, h.hn⟩
theorem RC.drewN {w : World} {g : Nat} {o : Int} {A1 A2 : Option Addr} {c1 c2 n : Nat} {x y : Nat → Nat} (h : RC w g o A1 A2 c1 c2 n x y) (q : Nat) : RC (w.drewN q) g o A1 A2 c1 c2 n x y :=
  ⟨h.blk, h.r1.drewN q, h.r2.drewN q, h.k1, h.k2, h.hn⟩

set_option maxHeartbeats 800000 in
set_option maxRecDepth 20000 in
theorem refknown_calls (x : Nat) (w : World) : Calls Try.prog 134 #[.int .u8 x] w fun e w' => e = .returned (.int .u8 (knw x)) ∧ w = w' := by
  by_cases h1 : x = 1
  · subst h1
    go_enter Try.func134, Try.ntmps134
    go_wp2
    go_ret
    exact ⟨rfl, rfl⟩
  · by_cases h2 : x = 2
    · subst h2
      go_enter Try.func134, Try.ntmps134
      go_wp2
      go_ret
      exact ⟨rfl, rfl⟩
    · have HK := Lib.hid (show knw x = 0 by unfold knw; rw [if_neg (by omega)])
      have e1 : ((x : Int) == 1) = false := by simp; omega
      have e2 : ((x : Int) == 2) = false := by simp; omega
      clear h1 h2
      go_enter Try.func134, Try.ntmps134
      go_wp2
      go_ret
      exact ⟨by rw [HK.out]; rfl, rfl⟩

set_option maxHeartbeats 800000 in
set_option maxRecDepth 20000 in
theorem refnew_calls (o : Int) (w : World) (h1 : 0 ≤ o) (h2 : o < 8) :
    Calls Try.prog 78 #[.int .i64 o] w fun e w' => e = .returned (.tuple #[.pointer (some ⟨w.heap.size, 0, none⟩), .int .i64 0]) ∧ w' = w.alloc (.cells #[.int .i64 o, .slice none 0 0, .slice none 0 0] 139) := by
  have h3 : ¬ (7 < o) := by omega
  go_enter Try.func78, Try.ntmps78
  go_wp2
  go_ret2
  exact ⟨rfl, rfl⟩
set_option maxHeartbeats 800000 in
set_option maxRecDepth 20000 in
theorem refnew_bad (o : Int) (w : World) (h : o < 0 ∨ 8 ≤ o) :
    Calls Try.prog 78 #[.int .i64 o] w fun e w' => e = .returned (.tuple #[.pointer none, .int .i64 1]) ∧ w = w' := by
  rcases h with h | h
  · go_enter Try.func78, Try.ntmps78
    go_wp2
    go_ret2
    exact ⟨rfl, rfl⟩
  · have h0 : ¬ (o < 0) := by omega
    have h7 : 7 < o := by omega
    go_enter Try.func78, Try.ntmps78
    go_wp2
    go_ret2
    exact ⟨rfl, rfl⟩

set_option maxHeartbeats 1600000 in
set_option maxRecDepth 20000 in
theorem body_calls {w : World} {g : Nat} {o : Int} {A1 A2 : Option Addr} {c1 c2 n : Nat} {x y : Nat → Nat} (h : RC w g o A1 A2 c1 c2 n x y) (i : Nat) (hi : i < n) :
    Calls Try.prog 136 #[.pointer (some ⟨g, 0, none⟩), .int .i64 i] w fun e w' => e = .returned (.int .u8 (bdF x y i)) ∧ w = w' := by
  have d1 := h.blk.cell 1 (.slice A1 n c1) rfl
  have d2 := h.blk.cell 2 (.slice A2 n c2) rfl
  obtain ⟨b1, o1, rfl, e1⟩ := h.r1.at_ i hi
  obtain ⟨b2, o2, rfl, e2⟩ := h.r2.at_ i hi
  rw [kl_gt x hi] at e1
  rw [kl_gt y hi] at e2
  have hn := h.hn
  by_cases hx : x i = 0
  · have HB := Lib.hid (show bdF x y i = y i by unfold bdF; rw [if_pos hx])
    have hx0 : ((x i : Int) == 0) = true := by rw [hx]; rfl
    have hx1 : ((x i : Int) != 0) = false := by rw [hx]; rfl
    clear h hx
    go_enter Try.func136, Try.ntmps136
    go_wp2
    go_ret
    exact ⟨by rw [HB.out]; rfl, rfl⟩
  · have HB := Lib.hid (show bdF x y i = x i by unfold bdF; rw [if_neg hx])
    have hx0 : ((x i : Int) == 0) = false := by simp; exact hx
    have hx1 : ((x i : Int) != 0) = true := by simp; exact hx
    clear h hx
    go_enter Try.func136, Try.ntmps136
    go_wp2
    go_ret
    exact ⟨by rw [HB.out]; rfl, rfl⟩

set_option maxHeartbeats 1600000 in
set_option maxRecDepth 20000 in
theorem cut_calls {w : World} {g : Nat} {o : Int} {A1 A2 : Option Addr} {c1 c2 n : Nat} {x y : Nat → Nat} (h : RC w g o A1 A2 c1 c2 n x y) (m : Nat) (hm : m ≤ n) :
    Calls Try.prog 135 #[.pointer (some ⟨g, 0, none⟩), .int .i64 m] w fun e w' => e = .returned (.bool (cuF x y m)) ∧ w = w' := by
  have HBC := Lib.hid (fun i hi => body_calls h i hi)
  have hn := h.hn
  clear h
  go_enter Try.func135, Try.ntmps135
  go_wp2
  go_loop [5] (fun v => ∃ k : Nat, k ≤ m ∧ v = .int .i64 k ∧ Hid (∀ j, j < k → j < 112 → bdF x y j ≠ 0)) (fun v => m - (intOf v).toNat)
  case atStart => exact ⟨0, Nat.zero_le _, rfl, Lib.hid (fun j hj => absurd hj (by omega))⟩
  case round =>
    obtain ⟨k, hk, rfl, HE⟩ := hrel
    by_cases hlt : k < m
    · by_cases h112 : k < 112
      · have HBK := Lib.hid (HBC.out k (by omega))
        by_cases h0 : bdF x y k = 0
        · have HF := Lib.hid (show cuF x y m = true by
            cases hc : cuF x y m with
            | true => rfl
            | false => exact absurd h0 ((cuF_iff x y m).1 hc k hlt h112))
          have e0 : ((bdF x y k : Int) == 0) = true := by rw [h0]; rfl
          clear h0
          go_wp2_with fail
          refine HBK.out.mono ?_; rintro e w' ⟨rfl, rfl⟩
          go_wp2
          go_ret
          exact ⟨by rw [HF.out]; rfl, rfl⟩
        · have e0 : ((bdF x y k : Int) == 0) = false := by simp; exact h0
          have H0 := Lib.hid h0
          clear h0
          go_wp2_with fail
          refine HBK.out.mono ?_; rintro e w' ⟨rfl, rfl⟩
          go_wp2
          go_round
          case rel => exact ⟨k + 1, by omega, by go_num, Lib.hid (fun j hj h112 => by
            rcases Nat.lt_succ_iff_lt_or_eq.1 hj with h | h
            · exact HE.out j h h112
            · rw [h]; exact H0.out)⟩
          case measure => simp [intOf]; omega
      · have HF := Lib.hid (show cuF x y m = false from (cuF_iff x y m).2 fun j hj hj2 => HE.out j (by omega) hj2)
        go_wp2
        go_ret
        exact ⟨by rw [HF.out]; rfl, rfl⟩
    · have HF := Lib.hid (show cuF x y m = false from (cuF_iff x y m).2 fun j hj hj2 => HE.out j (by omega) hj2)
      go_wp2
      go_ret
      exact ⟨by rw [HF.out]; rfl, rfl⟩
end Go.Proofs.Ytnmhhjgiakijgaa
