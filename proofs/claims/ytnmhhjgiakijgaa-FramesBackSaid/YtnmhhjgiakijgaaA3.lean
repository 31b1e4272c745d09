/- Sameness of lists; whole symbols; numbers of symbols: contracts. -/
import Derived.Test.YtnmhhjgiakijgaaA2
import Derived.Test.YtnmhhjgiakijgaaM2
namespace Go.Proofs.Ytnmhhjgiakijgaa
open Go.RowKit
set_option linter.unusedVariables false

theorem gt_ne_of {xs ys : List Int} (hl : xs.length = ys.length) (h : ∀ j, j < xs.length → gt xs j = gt ys j) : xs = ys := gt_ext hl h

set_option maxHeartbeats 1600000 in
set_option maxRecDepth 20000 in
theorem samesyms_calls (A B : Option Addr) (n m c d : Nat) (xs ys : List Int) (w : World) (hr : Rd w .u8 A n xs) (hs : Rd w .u8 B m ys) (hc : n ≤ c) (hd : m ≤ d) (hn : n ≤ 60000) :
    Calls Try.prog 32 #[.slice A n c, .slice B m d] w fun e w' => e = .returned (.bool (sameL xs ys)) ∧ ∃ q, w' = w.drewN q := by
  have HR := Lib.hid hr
  have HS := Lib.hid hs
  have HL := Lib.hid hr.len
  have HM := Lib.hid hs.len
  clear hr hs
  by_cases hnm : n = m
  · subst hnm
    go_enter Try.func32, Try.ntmps32
    go_wp2
    go_loopg [5] n (fun g v w' => ∃ k q : Nat, g + k = n ∧ v = .int .i64 k ∧ (∀ j, j < k → gt xs j = gt ys j) ∧ w' = w.drewN q)
    case atStart => exact ⟨0, 0, rfl, rfl, fun j hj => absurd hj (by omega), rfl⟩
    case round =>
      obtain ⟨k, q, hk, rfl, heq, rfl⟩ := hrel
      have HE := Lib.hid heq
      clear heq
      by_cases hlt : k < n
      · obtain ⟨b, o, rfl, hcell⟩ := HR.out.at_ k hlt
        obtain ⟨b', o', rfl, hcell'⟩ := HS.out.at_ k hlt
        by_cases hx : gt xs k = gt ys k
        · have hx' : (gt xs k != gt ys k) = false := by simp [hx]
          have HX := Lib.hid hx
          clear hx
          have HK := Lib.hid hk
          clear hk
          go_wp2
          go_quiet (fail)
          go_wp2
          obtain ⟨g', rfl⟩ : ∃ g', gk = g' + 1 := ⟨gk - 1, by have := HK.out; omega⟩
          go_roundg g'
          case measure => omega
          case rel => exact ⟨k + 1, _, by have := HK.out; omega, by go_num, fun j hj => by
            rcases Nat.lt_succ_iff_lt_or_eq.1 hj with h | h
            · exact HE.out j h
            · rw [h]; exact HX.out, rfl⟩
        · have hx' : (gt xs k != gt ys k) = true := by simp [hx]
          have HX := Lib.hid hx
          clear hx
          go_wp2
          go_quiet (fail)
          go_wp2
          go_ret
          refine ⟨?_, _, World.drewN_drewN ..⟩
          have : sameL xs ys = false := by
            unfold sameL
            exact decide_eq_false fun e => HX.out (by rw [e])
          rw [this]; rfl
      · have e : k = n := by omega
        subst e
        have hfin : sameL xs ys = true := by
          unfold sameL
          exact decide_eq_true (gt_ne_of (HL.out.trans HM.out.symm) (fun j hj => HE.out j (by have := HL.out; omega)))
        have HF := Lib.hid hfin
        clear hfin
        go_wp2
        go_ret
        exact ⟨by rw [HF.out]; rfl, _, rfl⟩
  · have hx' : ((n : Int) != (m : Int)) = true := by simp; omega
    have hfin : sameL xs ys = false := by
      unfold sameL
      exact decide_eq_false fun e => hnm (by rw [← HL.out, ← HM.out, e])
    have HF := Lib.hid hfin
    clear hfin
    go_enter Try.func32, Try.ntmps32
    go_wp2
    go_ret
    exact ⟨by rw [HF.out]; rfl, 0, rfl⟩
set_option maxHeartbeats 1600000 in
set_option maxRecDepth 20000 in
theorem samenums_calls (A B : Option Addr) (n m c d : Nat) (xs ys : List Int) (w : World) (hr : Rd w .i64 A n xs) (hs : Rd w .i64 B m ys) (hc : n ≤ c) (hd : m ≤ d) (hn : n ≤ 60000) :
    Calls Try.prog 106 #[.slice A n c, .slice B m d] w fun e w' => e = .returned (.bool (sameL xs ys)) ∧ ∃ q, w' = w.drewN q := by
  have HR := Lib.hid hr
  have HS := Lib.hid hs
  have HL := Lib.hid hr.len
  have HM := Lib.hid hs.len
  clear hr hs
  by_cases hnm : n = m
  · subst hnm
    go_enter Try.func106, Try.ntmps106
    go_wp2
    go_loopg [5] n (fun g v w' => ∃ k q : Nat, g + k = n ∧ v = .int .i64 k ∧ (∀ j, j < k → gt xs j = gt ys j) ∧ w' = w.drewN q)
    case atStart => exact ⟨0, 0, rfl, rfl, fun j hj => absurd hj (by omega), rfl⟩
    case round =>
      obtain ⟨k, q, hk, rfl, heq, rfl⟩ := hrel
      have HE := Lib.hid heq
      clear heq
      by_cases hlt : k < n
      · obtain ⟨b, o, rfl, hcell⟩ := HR.out.at_ k hlt
        obtain ⟨b', o', rfl, hcell'⟩ := HS.out.at_ k hlt
        by_cases hx : gt xs k = gt ys k
        · have hx' : (gt xs k != gt ys k) = false := by simp [hx]
          have HX := Lib.hid hx
          clear hx
          have HK := Lib.hid hk
          clear hk
          go_wp2
          go_quiet (fail)
          go_wp2
          obtain ⟨g', rfl⟩ : ∃ g', gk = g' + 1 := ⟨gk - 1, by have := HK.out; omega⟩
          go_roundg g'
          case measure => omega
          case rel => exact ⟨k + 1, _, by have := HK.out; omega, by go_num, fun j hj => by
            rcases Nat.lt_succ_iff_lt_or_eq.1 hj with h | h
            · exact HE.out j h
            · rw [h]; exact HX.out, rfl⟩
        · have hx' : (gt xs k != gt ys k) = true := by simp [hx]
          have HX := Lib.hid hx
          clear hx
          go_wp2
          go_quiet (fail)
          go_wp2
          go_ret
          refine ⟨?_, _, World.drewN_drewN ..⟩
          have : sameL xs ys = false := by
            unfold sameL
            exact decide_eq_false fun e => HX.out (by rw [e])
          rw [this]; rfl
      · have e : k = n := by omega
        subst e
        have hfin : sameL xs ys = true := by
          unfold sameL
          exact decide_eq_true (gt_ne_of (HL.out.trans HM.out.symm) (fun j hj => HE.out j (by have := HL.out; omega)))
        have HF := Lib.hid hfin
        clear hfin
        go_wp2
        go_ret
        exact ⟨by rw [HF.out]; rfl, _, rfl⟩
  · have hx' : ((n : Int) != (m : Int)) = true := by simp; omega
    have hfin : sameL xs ys = false := by
      unfold sameL
      exact decide_eq_false fun e => hnm (by rw [← HL.out, ← HM.out, e])
    have HF := Lib.hid hfin
    clear hfin
    go_enter Try.func106, Try.ntmps106
    go_wp2
    go_ret
    exact ⟨by rw [HF.out]; rfl, 0, rfl⟩
end Go.Proofs.Ytnmhhjgiakijgaa
