/- Turned symbols, by both texts: contracts. -/
import Derived.Test.YtnmhhjgiakijgaaA7
import Derived.Test.YtnmhhjgiakijgaaM1
namespace Go.Proofs.Ytnmhhjgiakijgaa
open Go.RowKit
set_option linter.unusedVariables false

/-- the cell of an owned element, and that it may be written -/
theorem Mn.cellAt {w : World} {B : Nat} {e : TypeId} {n c g : Nat} {k : IntKind} {xs : List Int} (h : Mn w B e 1 (.slice (some ⟨g, 0, none⟩) n c) n (nums k xs)) (j : Nat) (hj : j < n) :
    w.cell? ⟨g, j, none⟩ = some (.int k (gt xs j)) ∧ w.frozen? ⟨g, j, none⟩ = false := by
  have hl : xs.length = n := by have := h.1; rw [nums_length, Nat.mul_one] at this; exact this
  constructor
  · obtain ⟨b, o, e1, hc⟩ := h.rd.at_ j hj
    injection e1 with e1
    injection e1 with e1 e2
    subst e1
    subst e2
    rwa [Nat.zero_add] at hc
  · rcases h.2 with ⟨hv, _⟩ | ⟨g', cap, cur, hv, hb, hh, _⟩
    · cases hv
    · injection hv with h1 h2 h3
      injection h1 with h1
      injection h1 with h1 h4
      subst h1
      simp [World.frozen?, hh]
/-- an owned element is written -/
theorem Mn.set {w : World} {B : Nat} {e : TypeId} {n c g : Nat} {k : IntKind} {xs : List Int} (h : Mn w B e 1 (.slice (some ⟨g, 0, none⟩) n c) n (nums k xs)) (j : Nat) (hj : j < n) (x : Int) :
    Mn (w.setCell ⟨g, j, none⟩ (.int k x)) B e 1 (.slice (some ⟨g, 0, none⟩) n c) n (nums k (xs.set j x)) := by
  have hl : xs.length = n := by have := h.1; rw [nums_length, Nat.mul_one] at this; exact this
  refine ⟨by rw [nums_length, List.length_set]; omega, ?_⟩
  rcases h.2 with ⟨hv, _⟩ | ⟨g', cap, cur, hv, hb, hh, hc, hm, hs, ht⟩
  · cases hv
  · injection hv with h1 h2 h3
    injection h1 with h1
    injection h1 with h1 h4
    subst h1
    refine .inr ⟨g, cap, cur.setIfInBounds j (.int k x), by rw [h3], hb, ?_, hc, hm, by simpa using hs, ?_⟩
    · simp [World.setCell, Array.getElem?_modify, hh]
    · rw [Nat.mul_one] at ht ⊢
      simp only [Array.toList_setIfInBounds]
      rw [List.take_set, ht]
      simp [nums, List.map_set]

set_option maxHeartbeats 1600000 in
set_option maxRecDepth 20000 in
theorem turn_calls (A : Option Addr) (n c : Nat) (xs : List Int) (D : Option Addr) (m d : Nat) (at_ : List Int) (w : World) (hr : Rd w .u8 A n xs) (hc : n ≤ c) (hn : n ≤ 60000) (hs : Rd w .i64 D m at_) (hd : m ≤ d) (hm : m ≤ 60000) :
    Calls Try.prog 38 #[.slice A n c, .slice D m d] w fun e w' => ∃ A', e = .returned (.slice A' n n) ∧ Mn w' w.heap.size 50 1 (.slice A' n n) n (nums .u8 (turnL xs at_)) ∧ Below w.heap.size w w' := by
  have HR := Lib.hid hr
  have HL := Lib.hid hr.len
  have HS := Lib.hid hs
  have HM := Lib.hid hs.len
  clear hr hs
  go_enter Try.func38, Try.ntmps38
  go_wp2_with (first
    | (go_at_call 100; refine (clone50 A n c (nums .u8 xs) _ HR.out (nums_one _ _) hc hn).mono ?_; rintro e w1 ⟨A', c', rfl, hcc, hmn, hb⟩)
    | (go_at_call 101; refine (clip50 _ _ _ _ hcc (Mn.cap_le hmn)).mono ?_; rintro e w2 ⟨rfl, rfl⟩))
  have hm1 := hmn.clip
  clear hmn hcc
  go_loopw [13] (fun i wr => ∃ (k : Nat), k ≤ m ∧ i = .int .i64 k ∧ Mn wr w.heap.size 50 1 (.slice A' n n) n (nums .u8 (turnL xs (at_.take k))) ∧ Below w.heap.size w wr)
    (fun i _ => m - (intOf i).toNat)
  case atStart => exact ⟨0, Nat.zero_le _, rfl, hm1, hb⟩
  case round =>
    clear hm1 hb
    obtain ⟨k, hk, rfl, hm2, hb2⟩ := hrel
    by_cases hlt : k < m
    · obtain ⟨b1, o1, rfl, hcell⟩ := (HS.out.below hb2).at_ k hlt
      have HT := Lib.hid (turnL_take xs at_ k (by rw [HM.out]; exact hlt))
      have HTL := Lib.hid (turnL_length xs (at_.take k))
      generalize gt at_ k = i at *
      generalize turnL xs (at_.take k) = ys at *
      have hyl : ys.length = n := by rw [HTL.out, HL.out]
      have HYL := Lib.hid hyl
      clear hyl
      by_cases h0 : 0 ≤ i
      · obtain ⟨j, rfl⟩ := Int.eq_ofNat_of_zero_le h0
        clear h0
        by_cases hj : j < n
        · obtain ⟨g, rfl⟩ := hm2.ex (by omega)
          obtain ⟨hcj, hfj⟩ := hm2.cellAt j hj
          have hgB := (hm2.block (g := g) rfl).1
          have HG := Lib.hid hgB
          clear hgB
          cases hw : wholeB (gt ys j) with
          | true =>
            have h12 : 1 ≤ gt ys j ∧ gt ys j ≤ 2 := by have := wholeB_cases hw; omega
            obtain ⟨hx1, hx2⟩ := h12
            have ht1 : turn1 ys (j : Int) = ys.set j (3 - gt ys j) := by
              unfold turn1 flip
              rw [if_pos ⟨by omega, by rw [HYL.out]; omega⟩, Int.toNat_natCast, if_pos hw]
            have HT1 := Lib.hid ht1
            clear ht1
            go_wp2_with (go_at_call 105; refine (whole_calls _ _).mono ?_; rintro e w' ⟨rfl, rfl⟩)
            go_roundw
            case rel => exact ⟨k + 1, by omega, by go_num, by rw [HT.out, HT1.out]; exact hm2.set j hj _, hb2.setCell (p := ⟨g, j, none⟩) HG.out _⟩
            case measure => simp [intOf]; omega
          | false =>
            have ht1 : turn1 ys (j : Int) = ys := by
              unfold turn1 flip
              rw [if_pos ⟨by omega, by rw [HYL.out]; omega⟩, Int.toNat_natCast, hw]
              refine gt_ext (by simp) (fun q hq => ?_)
              rw [gt_set _ _ _ _ (by rw [HYL.out]; exact hj)]
              split
              · rename_i e; rw [e]; rfl
              · rfl
            have HT1 := Lib.hid ht1
            clear ht1
            go_wp2_with (go_at_call 105; refine (whole_calls _ _).mono ?_; rintro e w' ⟨rfl, rfl⟩)
            go_roundw
            case rel => exact ⟨k + 1, by omega, by go_num, by rw [HT.out, HT1.out]; exact hm2, hb2⟩
            case measure => simp [intOf]; omega
        · have ht1 : turn1 ys (j : Int) = ys := by unfold turn1; rw [if_neg (by rw [HYL.out]; omega)]
          have HT1 := Lib.hid ht1
          clear ht1
          go_wp2
          go_roundw
          case rel => exact ⟨k + 1, by omega, by go_num, by rw [HT.out, HT1.out]; exact hm2, hb2⟩
          case measure => simp [intOf]; omega
      · have ht1 : turn1 ys i = ys := by unfold turn1; rw [if_neg (by omega)]
        have HT1 := Lib.hid ht1
        clear ht1
        have h0' : i < 0 := by omega
        clear h0
        go_wp2
        go_roundw
        case rel => exact ⟨k + 1, by omega, by go_num, by rw [HT.out, HT1.out]; exact hm2, hb2⟩
        case measure => simp [intOf]; omega
    · have e : k = m := by omega
      subst e
      rw [List.take_of_length_le (by rw [HM.out]; exact Nat.le_refl _)] at hm2
      go_wp2
      go_ret
      exact ⟨_, rfl, hm2, hb2⟩
end Go.Proofs.Ytnmhhjgiakijgaa
