/- Frames: the small functions. -/
import Derived.Test.YtnmhhjgiakijgaaA20
import Derived.Deep.RegionHeld3
namespace Go.Proofs.Ytnmhhjgiakijgaa
open Go.RowKit
set_option linter.unusedVariables false

/-- may there be such a frame? -/
def mayB (o : Int) (k : Nat) : Bool := decide (0 ≤ o) && decide (o < 8) && (k == 1 || k == 2)
theorem mayB_true {o : Int} {k : Nat} (h : mayB o k = true) : 0 ≤ o ∧ o < 8 ∧ (k = 1 ∨ k = 2) := by
  simp only [mayB, Bool.and_eq_true, decide_eq_true_eq, Bool.or_eq_true, beq_iff_eq] at h
  exact ⟨h.1.1, h.1.2, h.2⟩

set_option maxHeartbeats 800000 in
set_option maxRecDepth 20000 in
theorem may_calls (o : Int) (k s q v : Nat) (w : World) :
    Calls Try.prog 118 #[.agg #[.int .i64 o, .int .u8 k, .int .u8 s, .int .u32 q, .int .u32 v]] w fun e w' => e = .returned (.bool (mayB o k)) ∧ Below w.heap.size w w' := by
  have HM : Hid (∀ b, mayB o k = b → True) := fun _ _ => trivial
  by_cases h1 : 0 ≤ o
  · by_cases h2 : o < 8
    · by_cases h3 : k = 1
      · subst h3
        have h := Lib.hid (show mayB o 1 = true by simp [mayB, h1, h2])
        go_enter Try.func118, Try.ntmps118
        go_wp2
        go_ret
        exact ⟨by rw [h.out]; rfl, (by repeat (first | exact Below.refl _ _ | apply Bw.alloc | apply Bw.drewN | apply Bw.drew | (refine Bw.step ?_ (by assumption))))⟩
      · by_cases h4 : k = 2
        · subst h4
          have h := Lib.hid (show mayB o 2 = true by simp [mayB, h1, h2])
          go_enter Try.func118, Try.ntmps118
          go_wp2
          go_ret
          exact ⟨by rw [h.out]; rfl, (by repeat (first | exact Below.refl _ _ | apply Bw.alloc | apply Bw.drewN | apply Bw.drew | (refine Bw.step ?_ (by assumption))))⟩
        · have h := Lib.hid (show mayB o k = false by simp [mayB, h3, h4])
          have e1 : ((k : Int) == 1) = false := by simp; omega
          have e2 : ((k : Int) == 2) = false := by simp; omega
          go_enter Try.func118, Try.ntmps118
          go_wp2
          go_ret
          exact ⟨by rw [h.out]; rfl, (by repeat (first | exact Below.refl _ _ | apply Bw.alloc | apply Bw.drewN | apply Bw.drew | (refine Bw.step ?_ (by assumption))))⟩
    · have h := Lib.hid (show mayB o k = false by simp [mayB, h2])
      go_enter Try.func118, Try.ntmps118
      go_wp2
      go_ret
      exact ⟨by rw [h.out]; rfl, (by repeat (first | exact Below.refl _ _ | apply Bw.alloc | apply Bw.drewN | apply Bw.drew | (refine Bw.step ?_ (by assumption))))⟩
  · have h := Lib.hid (show mayB o k = false by simp [mayB, h1])
    go_enter Try.func118, Try.ntmps118
    go_wp2
    go_ret
    exact ⟨by rw [h.out]; rfl, (by repeat (first | exact Below.refl _ _ | apply Bw.alloc | apply Bw.drewN | apply Bw.drew | (refine Bw.step ?_ (by assumption))))⟩
set_option maxHeartbeats 800000 in
set_option maxRecDepth 20000 in
theorem refmay_calls (o : Int) (k s q v : Nat) (w : World) :
    Calls Try.prog 121 #[.agg #[.int .i64 o, .int .u8 k, .int .u8 s, .int .u32 q, .int .u32 v]] w fun e w' => e = .returned (.bool (mayB o k)) ∧ Below w.heap.size w w' := by
  have HM : Hid (∀ b, mayB o k = b → True) := fun _ _ => trivial
  by_cases h1 : 0 ≤ o
  · by_cases h2 : o < 8
    · have h7 : o ≤ 7 := by omega
      by_cases h3 : k = 1
      · subst h3
        have h := Lib.hid (show mayB o 1 = true by simp [mayB, h1, h2])
        go_enter Try.func121, Try.ntmps121
        go_wp2
        go_ret
        exact ⟨by rw [h.out]; rfl, (by repeat (first | exact Below.refl _ _ | apply Bw.alloc | apply Bw.drewN | apply Bw.drew | (refine Bw.step ?_ (by assumption))))⟩
      · by_cases h4 : k = 2
        · subst h4
          have h := Lib.hid (show mayB o 2 = true by simp [mayB, h1, h2])
          go_enter Try.func121, Try.ntmps121
          go_wp2
          go_ret
          exact ⟨by rw [h.out]; rfl, (by repeat (first | exact Below.refl _ _ | apply Bw.alloc | apply Bw.drewN | apply Bw.drew | (refine Bw.step ?_ (by assumption))))⟩
        · have h := Lib.hid (show mayB o k = false by simp [mayB, h3, h4])
          have e1 : ((k : Int) == 1) = false := by simp; omega
          have e2 : ((k : Int) == 2) = false := by simp; omega
          go_enter Try.func121, Try.ntmps121
          go_wp2
          go_ret
          exact ⟨by rw [h.out]; rfl, (by repeat (first | exact Below.refl _ _ | apply Bw.alloc | apply Bw.drewN | apply Bw.drew | (refine Bw.step ?_ (by assumption))))⟩
    · have h := Lib.hid (show mayB o k = false by simp [mayB, h2])
      have h7 : ¬ (o ≤ 7) := by omega
      go_enter Try.func121, Try.ntmps121
      go_wp2
      go_ret
      exact ⟨by rw [h.out]; rfl, (by repeat (first | exact Below.refl _ _ | apply Bw.alloc | apply Bw.drewN | apply Bw.drew | (refine Bw.step ?_ (by assumption))))⟩
  · have h := Lib.hid (show mayB o k = false by simp [mayB, h1])
    go_enter Try.func121, Try.ntmps121
    go_wp2
    go_ret
    exact ⟨by rw [h.out]; rfl, (by repeat (first | exact Below.refl _ _ | apply Bw.alloc | apply Bw.drewN | apply Bw.drew | (refine Bw.step ?_ (by assumption))))⟩

set_option maxHeartbeats 800000 in
set_option maxRecDepth 20000 in
theorem of58_calls (o : Int) (k s q v : Nat) (w : World) :
    Calls Try.prog 58 #[.int .i64 o, .agg #[.int .u8 k, .int .u8 s, .int .u32 q, .int .u32 v]] w fun e w' => e = .returned (.agg #[.int .i64 o, .int .u8 k, .int .u8 s, .int .u32 q, .int .u32 v]) ∧ Below w.heap.size w w' := by
  go_enter Try.func58, Try.ntmps58
  go_wp2
  refine bodyPost_ret (v := .agg #[.int .i64 o, .int .u8 k, .int .u8 s, .int .u32 q, .int .u32 v]) (by simp [results, Try.results58, go_sem]) rfl ?_
  exact ⟨rfl, (by repeat (first | exact Below.refl _ _ | apply Bw.alloc | apply Bw.drewN | apply Bw.drew | (refine Bw.step ?_ (by assumption))))⟩

set_option maxHeartbeats 800000 in
set_option maxRecDepth 20000 in
theorem four_calls (q : Nat) (w : World) (hq : q < 4294967296) :
    Calls Try.prog 120 #[.int .u32 q] w fun e w' => ∃ A, e = .returned (.slice A 4 4) ∧ Mn w' w.heap.size 5 1 (.slice A 4 4) 4 (nums .u8 (be4 q)) ∧ Below w.heap.size w w' := by
  go_enter Try.func120, Try.ntmps120
  go_wp2
  go_ret
  refine ⟨_, rfl, ?_, (by repeat (first | exact Below.refl _ _ | apply Bw.alloc | apply Bw.drewN | apply Bw.drew | (refine Bw.step ?_ (by assumption))))⟩
  rw [be4_lt q hq]
  exact Mn.lit w 5 1 4 _ (Nat.le_refl _) rfl (by simp only [maxLen]; omega)

set_option maxHeartbeats 800000 in
set_option maxRecDepth 20000 in
theorem parts_calls (a b : Bool) (w : World) :
    Calls Try.prog 124 #[.agg #[.bool a, .bool b]] w fun e w' => e = .returned (.agg #[.bool a, .bool b]) ∧ Below w.heap.size w w' := by
  go_enter Try.func124, Try.ntmps124
  go_wp2
  refine bodyPost_ret (v := .agg #[.bool a, .bool b]) (by simp [results, Try.results124, go_sem]) rfl ?_
  exact ⟨rfl, (by repeat (first | exact Below.refl _ _ | apply Bw.alloc | apply Bw.drewN | apply Bw.drew | (refine Bw.step ?_ (by assumption))))⟩

set_option maxHeartbeats 800000 in
set_option maxRecDepth 20000 in
theorem good125_calls (w : World) :
    Calls Try.prog 125 #[] w fun e w' => e = .returned (.agg #[.bool true, .bool false]) ∧ Below w.heap.size w w' := by
  go_enter Try.func125, Try.ntmps125
  go_wp2
  refine bodyPost_ret (v := .agg #[.bool true, .bool false]) (by simp [results, Try.results125, go_sem]) rfl ?_
  exact ⟨rfl, (by repeat (first | exact Below.refl _ _ | apply Bw.alloc | apply Bw.drewN | apply Bw.drew | (refine Bw.step ?_ (by assumption))))⟩

@[go_sem] theorem eq83 (a b c d : Bool) (w : World) : (Op.equalIn 10000 83 (.agg #[.bool a, .bool b]) (.agg #[.bool c, .bool d])).run Try.prog w = .ok (a == c && b == d) w := by
  have u4 := Try.underlying4
  have a4 := Try.isAgg4
  have z4 := Try.sizeOf4
  rw [show (10000 : Nat) = 9999 + 1 from rfl, Op.equalIn]
  simp only [Sem.run_bind, run_underlying Try.underlying83, Result.andThen_ok]
  simp only [Std.Legacy.Range.forIn_eq_forIn_range', Std.Legacy.Range.size, Nat.sub_zero, Nat.add_sub_cancel, Nat.div_one, List.range'_succ, List.range'_zero, List.forIn_cons, List.forIn_nil]
  go_simp
  cases a <;> cases b <;> cases c <;> cases d <;> simp

set_option maxHeartbeats 800000 in
set_option maxRecDepth 20000 in
theorem good_calls (a b : Bool) (w : World) :
    Calls Try.prog 62 #[.agg #[.bool a, .bool b]] w fun e w' => e = .returned (.bool (a && !b)) ∧ Below w.heap.size w w' := by
  go_enter Try.func62, Try.ntmps62
  go_wp2_with fail
  refine (parts_calls a b _).mono ?_; rintro e w1 ⟨rfl, hb1⟩
  go_wp2_with fail
  refine (good125_calls _).mono ?_; rintro e w2 ⟨rfl, hb2⟩
  cases a <;> cases b
  all_goals
    go_wp2
    go_ret
    exact ⟨rfl, (by repeat (first | exact Below.refl _ _ | apply Bw.alloc | apply Bw.drewN | apply Bw.drew | (refine Bw.step ?_ (by assumption))))⟩

set_option maxHeartbeats 800000 in
set_option maxRecDepth 20000 in
theorem refgood_calls (a b : Bool) (w : World) :
    Calls Try.prog 63 #[.agg #[.bool a, .bool b]] w fun e w' => e = .returned (.bool (a && !b)) ∧ Below w.heap.size w w' := by
  cases a <;> cases b
  all_goals
    go_enter Try.func63, Try.ntmps63
    go_wp2
    go_ret
    exact ⟨rfl, (by repeat (first | exact Below.refl _ _ | apply Bw.alloc | apply Bw.drewN | apply Bw.drew | (refine Bw.step ?_ (by assumption))))⟩

/-- the symbol of what is so, or not -/
def sy (b : Bool) : Int := if b = true then 2 else 1
set_option maxHeartbeats 800000 in
set_option maxRecDepth 20000 in
theorem sym_calls (b : Bool) (w : World) :
    Calls Try.prog 126 #[.bool b] w fun e w' => e = .returned (.int .u8 (sy b)) ∧ w = w' := by
  cases b
  all_goals
    go_enter Try.func126, Try.ntmps126
    go_wp2
    go_ret
    exact ⟨rfl, rfl⟩

def tailL (a b : Bool) : List Int := [sy a, sy b]
theorem rd2_mn {w : World} {B : Nat} {e : TypeId} {x y : Int} (hB : B ≤ w.heap.size) {a : Nat} (ha : a = w.heap.size) : Mn (w.alloc (.cells #[.int .u8 x, .int .u8 y] e)) B e 1 (.slice (some ⟨a, 0, none⟩) 2 2) 2 (nums .u8 [x, y]) := by
  subst ha
  exact Mn.lit w e 1 2 _ hB rfl (by simp only [maxLen]; omega)
set_option maxHeartbeats 800000 in
set_option maxRecDepth 20000 in
theorem reftail_calls (a b : Bool) (w : World) :
    Calls Try.prog 65 #[.agg #[.bool a, .bool b]] w fun e w' => ∃ A, e = .returned (.slice A 2 2) ∧ Mn w' w.heap.size 50 1 (.slice A 2 2) 2 (nums .u8 (tailL a b)) ∧ Below w.heap.size w w' := by
  go_enter Try.func65, Try.ntmps65
  go_wp2_with fail
  have hc0 : (w.alloc (.cells #[.bool a, .bool b] 94)).cell? ⟨w.heap.size, 0, none⟩ = some (.bool a) := by simp [go_sem]
  have hc1 : (w.alloc (.cells #[.bool a, .bool b] 94)).cell? ⟨w.heap.size, 1, none⟩ = some (.bool b) := by simp [go_sem]
  have hbw : Below w.heap.size w (w.alloc (.cells #[.bool a, .bool b] 94)) := (by repeat (first | exact Below.refl _ _ | apply Bw.alloc | apply Bw.drewN | apply Bw.drew | (refine Bw.step ?_ (by assumption))))
  have hlt : w.heap.size < (w.alloc (.cells #[.bool a, .bool b] 94)).heap.size := by simp
  generalize w.alloc (.cells #[.bool a, .bool b] 94) = W at *
  have HK : Hid (∀ w', Below W.heap.size W w' → w'.cell? ⟨w.heap.size, 0, none⟩ = some (.bool a) ∧ w'.cell? ⟨w.heap.size, 1, none⟩ = some (.bool b)) := fun w' h => ⟨(h.cell (p := ⟨w.heap.size, 0, none⟩) hlt).trans hc0, (h.cell (p := ⟨w.heap.size, 1, none⟩) hlt).trans hc1⟩
  clear hlt
  go_region_held3 (fun w' => w'.cell? ⟨w.heap.size, 0, none⟩ = some (.bool a) ∧ w'.cell? ⟨w.heap.size, 1, none⟩ = some (.bool b)) (first | assumption | exact HK.out _ (by repeat (first | exact Below.refl _ _ | apply Bw.alloc | apply Bw.drewN | apply Bw.drew | (refine Bw.step ?_ (by assumption)))))
    (first
      | (go_at_call 126; refine (sym_calls a _).mono ?_; rintro e w8 ⟨rfl, rfl⟩)
      | (go_at_call 126; refine (sym_calls b _).mono ?_; rintro e w8 ⟨rfl, rfl⟩))
  go_wp2
  go_ret
  exact ⟨_, rfl, rd2_mn (w := W) hbw.size rfl, (by repeat (first | exact Below.refl _ _ | apply Bw.alloc | apply Bw.drewN | apply Bw.drew | (refine Bw.step ?_ (by assumption))))⟩

@[go_sem] theorem index83_0 (a b : Bool) (w : World) : (Instr.index 83 (.agg #[.bool a, .bool b]) (.int .i64 0)).run Try.prog w = .ok (.bool a) w := by
  have u4 := Try.underlying4
  have a4 := Try.isAgg4
  have z4 := Try.sizeOf4
  simp [Instr.index, run_underlying Try.underlying83, asIntOf, part, go_sem, a4, z4]
@[go_sem] theorem index83_1 (a b : Bool) (w : World) : (Instr.index 83 (.agg #[.bool a, .bool b]) (.int .i64 1)).run Try.prog w = .ok (.bool b) w := by
  have u4 := Try.underlying4
  have a4 := Try.isAgg4
  have z4 := Try.sizeOf4
  simp [Instr.index, run_underlying Try.underlying83, asIntOf, part, go_sem, a4, z4]
theorem putL_bit (b : Bool) : putL (if b = true then 1 else 0) 1 = [sy b] := by cases b <;> rfl
set_option maxHeartbeats 800000 in
set_option maxRecDepth 20000 in
theorem tail_calls (a b : Bool) (w : World) :
    Calls Try.prog 64 #[.agg #[.bool a, .bool b]] w fun e w' => ∃ A, e = .returned (.slice A 2 2) ∧ Mn w' w.heap.size 50 1 (.slice A 2 2) 2 (nums .u8 (tailL a b)) ∧ Below w.heap.size w w' := by
  go_enter Try.func64, Try.ntmps64
  go_wp2_with fail
  refine (parts_calls a b _).mono ?_; rintro e w1 ⟨rfl, hb1⟩
  go_wp2_with fail
  have hbw : Below w.heap.size w w1 := (by repeat (first | exact Below.refl _ _ | apply Bw.alloc | apply Bw.drewN | apply Bw.drew | (refine Bw.step ?_ (by assumption))))
  go_loopw [3, 9] (fun u v w' => (v = .int .i64 0 ∧ u = .slice none 0 0 ∧ Below w.heap.size w w') ∨ (∃ A, v = .int .i64 1 ∧ u = .slice A 1 1 ∧ Mn w' w.heap.size 50 1 (.slice A 1 1) 1 (nums .u8 [sy a]) ∧ Below w.heap.size w w') ∨ (∃ A, v = .int .i64 2 ∧ u = .slice A 2 2 ∧ Mn w' w.heap.size 50 1 (.slice A 2 2) 2 (nums .u8 (tailL a b)) ∧ Below w.heap.size w w')) (fun _ v _ => 2 - (intOf v).toNat)
  case atStart => exact .inl ⟨rfl, rfl, hbw⟩
  case round =>
    clear hb1 hbw
    rcases hrel with ⟨rfl, rfl, hb⟩ | ⟨A, rfl, rfl, hm, hb⟩ | ⟨A, rfl, rfl, hm, hb⟩
    · have h := Lib.hid (fun w => put_calls none 0 0 [] (if a = true then 1 else 0) 1 w Rd.nil (Nat.le_refl _) (by omega) (by split <;> omega))
      have hp := Lib.hid (show putA [] (if a = true then 1 else 0) 1 = [sy a] by cases a <;> rfl)
      have hm1 := Lib.hid (show many 1 = 1 by decide)
      cases a
      all_goals
        go_wp2_with fail
        refine (h.out _).mono ?_
        rintro e w2 ⟨A2, m2, rfl, hm2, hmn2, hb2⟩
        rewrite [hm1.out] at hm2
        simp only [Nat.zero_add] at hm2
        subst hm2
        rewrite [hp.out] at hmn2
        go_wp2
        go_roundw
        case rel => exact .inr (.inl ⟨A2, rfl, rfl, hmn2.mono hb.size, (by repeat (first | exact Below.refl _ _ | apply Bw.alloc | apply Bw.drewN | apply Bw.drew | (refine Bw.step ?_ (by assumption))))⟩)
        case measure => simp [intOf]
    · have h := Lib.hid (fun w hr => put_calls A 1 1 [sy a] (if b = true then 1 else 0) 1 w hr (Nat.le_refl _) (by omega) (by split <;> omega))
      have hp := Lib.hid (show putA [sy a] (if b = true then 1 else 0) 1 = tailL a b by cases b <;> rfl)
      have hm1 := Lib.hid (show many 1 = 1 by decide)
      cases b
      all_goals
        go_wp2_with fail
        refine (h.out _ hm.rd).mono ?_
        rintro e w2 ⟨A2, m2, rfl, hm2, hmn2, hb2⟩
        rewrite [hm1.out] at hm2
        subst hm2
        rewrite [hp.out] at hmn2
        go_wp2
        go_roundw
        case rel => exact .inr (.inr ⟨A2, rfl, rfl, hmn2.mono hb.size, (by repeat (first | exact Below.refl _ _ | apply Bw.alloc | apply Bw.drewN | apply Bw.drew | (refine Bw.step ?_ (by assumption))))⟩)
        case measure => simp [intOf]
    · go_wp2
      go_ret
      exact ⟨A, rfl, hm, hb⟩
end Go.Proofs.Ytnmhhjgiakijgaa
