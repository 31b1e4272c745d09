/- Catches: High, Unlike. -/
import Derived.Test.YtnmhhjgiakijgaaD4
namespace Go.Proofs.Ytnmhhjgiakijgaa
open Go.RowKit
set_option linter.unusedVariables false
set_option linter.unusedSimpArgs false

/-- is what is next none? -/
theorem eq136 (g n : Nat) (w : World) : (Op.equalIn 10000 136 (nxV g n) .nilFunc).run Try.prog w = .ok (decide (3 ≤ n)) w := by
  have u := Try.underlying136
  rw [show (10000 : Nat) = 9999 + 1 from rfl]
  unfold Op.equalIn
  match n with
  | 0 => simp [go_sem, nxV, u]
  | 1 => simp [go_sem, nxV, u]
  | 2 => simp [go_sem, nxV, u]
  | n + 3 => simp [go_sem, nxV, u]
@[go_sem] theorem eql136 (g n : Nat) (w : World) : (binOp .eql 136 (nxV g n) .nilFunc).run Try.prog w = .ok (.bool (decide (3 ≤ n))) w := by
  simp only [binOp]
  simp [show (Op.equal 136 (nxV g n) .nilFunc).run Try.prog w = .ok (decide (3 ≤ n)) w from eq136 g n w]
@[go_sem] theorem nxV_guard {op : BinOp} {t : TypeId} {x y : Operand} {v : Value} (g n : Nat) : eqGuard op t x y (nxV g n) v = pure () := by
  match n with
  | 0 => cases op <;> rfl
  | 1 => cases op <;> rfl
  | 2 => cases op <;> rfl
  | n + 3 => cases op <;> rfl

/-- what 'Unlike' answers -/
def ulC (s : Ct) : Int := if (s.o == 0 && decide (3 ≤ s.nx) && ((s.had : Int) == 0)) = true then -1 else s.un

set_option maxHeartbeats 3200000 in
set_option maxRecDepth 20000 in
theorem unlike_calls (B g : Nat) (r : Option Nat) (s : Ct) (w : World) (h : CS w B g r s) :
    Calls Try.prog 85 #[.pointer (some ⟨g, 0, none⟩)] w fun e w' => e = .returned (.int .i64 (ulC s)) ∧ w = w' := by
  obtain ⟨-, A, c, hb, -, -, -⟩ := h
  have c0 := hb.cell 0 (.int .i64 s.o) rfl
  have c1 := hb.cell 1 (nxV g s.nx) rfl
  have c3 := hb.cell 3 (.int .i64 s.had) rfl
  have c4 := hb.cell 4 (.int .i64 s.un) rfl
  clear hb
  obtain ⟨b1, h1⟩ : ∃ b, (s.o == 0) = b := ⟨_, rfl⟩
  obtain ⟨b2, h2⟩ : ∃ b, decide (3 ≤ s.nx) = b := ⟨_, rfl⟩
  obtain ⟨b3, h3⟩ : ∃ b, ((s.had : Int) == 0) = b := ⟨_, rfl⟩
  have HU := Lib.hid (show ulC s = if (b1 && b2 && b3) = true then -1 else s.un by unfold ulC; rw [h1, h2, h3])
  have e2 : ∀ w, (binOp .eql 136 (nxV g s.nx) .nilFunc).run Try.prog w = .ok (.bool b2) w := fun w => by rw [eql136, h2]
  rewrite [HU.out]
  clear HU h2
  cases b1 <;> cases b2 <;> cases b3
  all_goals
    go_enter Try.func85, Try.ntmps85
    go_wp2
    go_ret
    exact ⟨rfl, rfl⟩

set_option maxHeartbeats 3200000 in
set_option maxRecDepth 20000 in
theorem high_calls (B g : Nat) (r : Option Nat) (s : Ct) (w : World) (h : CS w B g r s) (hlen : s.bd.length ≤ 56000) (hh : s.hi = true) :
    Calls Try.prog 83 #[.pointer (some ⟨g, 0, none⟩)] w fun e w' => e = .returned (.tuple #[.agg (f5 (byV s.bd)), .bool (isF s)]) ∧ Below w.heap.size w w' := by
  have H := Lib.hid h
  obtain ⟨-, A, c, hb, -, -, -⟩ := h
  have c7 := (hb.below (show Below w.heap.size w (w.alloc (.cells #[.int .i64 0, .int .u8 0, .int .u8 0, .int .u32 0, .int .u32 0] 89)) from (by repeat (first | exact Below.refl _ _ | apply Bw.alloc | apply Bw.drewN | apply Bw.drew | (refine Bw.step ?_ (by assumption)))))).cell 7 (.bool s.hi) rfl
  rw [hh] at c7
  clear hb hh
  go_enter Try.func83, Try.ntmps83
  go_wp2_with fail
  refine (frame_calls B g r s (w.alloc (.cells #[.int .i64 0, .int .u8 0, .int .u8 0, .int .u32 0, .int .u32 0] 89)) (H.out.below (by repeat (first | exact Below.refl _ _ | apply Bw.alloc | apply Bw.drewN | apply Bw.drew | (refine Bw.step ?_ (by assumption))))) hlen).mono ?_
  rintro e w1 ⟨rfl, hbel⟩
  have hT := (Blk.new (w := w) (cs := #[.int .i64 0, .int .u8 0, .int .u8 0, .int .u32 0, .int .u32 0]) (e := 89) rfl).below hbel
  obtain ⟨z0, z1, z2, z3, z4⟩ := hT.c5
  have j0 := hT.frozen 0
  have j1 := hT.frozen 1
  have j2 := hT.frozen 2
  have j3 := hT.frozen 3
  have j4 := hT.frozen 4
  have HB3 := Lib.hid (Bk.set5 (show Below w.heap.size w w1 from (by repeat (first | exact Below.refl _ _ | apply Bw.alloc | apply Bw.drewN | apply Bw.drew | (refine Bw.step ?_ (by assumption))))) (Nat.le_refl _) (.int .i64 (fO (byV s.bd))) (.int .u8 (fK (byV s.bd))) (.int .u8 (fS (byV s.bd))) (.int .u32 (fQ (byV s.bd))) (.int .u32 (fV (byV s.bd))))
  clear hT
  unfold f5
  go_wp2
  refine bodyPost_ret (v := .tuple #[.agg #[.int .i64 (fO (byV s.bd)), .int .u8 (fK (byV s.bd)), .int .u8 (fS (byV s.bd)), .int .u32 (fQ (byV s.bd)), .int .u32 (fV (byV s.bd))], .bool (isF s)]) (by simp [results, Try.results83, go_sem, *]) rfl ?_
  exact ⟨rfl, HB3.out⟩

set_option maxHeartbeats 3200000 in
set_option maxRecDepth 20000 in
theorem high_not (B g : Nat) (r : Option Nat) (s : Ct) (w : World) (h : CS w B g r s) (hh : s.hi = false) :
    Calls Try.prog 83 #[.pointer (some ⟨g, 0, none⟩)] w fun e w' => e = .returned (.tuple #[.agg #[.int .i64 0, .int .u8 0, .int .u8 0, .int .u32 0, .int .u32 0], .bool false]) ∧ Below w.heap.size w w' := by
  obtain ⟨-, A, c, hb, -, -, -⟩ := h
  have c7 := (hb.below (show Below w.heap.size w (w.alloc (.cells #[.int .i64 0, .int .u8 0, .int .u8 0, .int .u32 0, .int .u32 0] 89)) from (by repeat (first | exact Below.refl _ _ | apply Bw.alloc | apply Bw.drewN | apply Bw.drew | (refine Bw.step ?_ (by assumption)))))).cell 7 (.bool s.hi) rfl
  rw [hh] at c7
  clear hb hh
  go_enter Try.func83, Try.ntmps83
  go_wp2
  refine bodyPost_ret (v := .tuple #[.agg #[.int .i64 0, .int .u8 0, .int .u8 0, .int .u32 0, .int .u32 0], .bool false]) (by simp [results, Try.results83, go_sem, *]) rfl ?_
  exact ⟨rfl, (by repeat (first | exact Below.refl _ _ | apply Bw.alloc | apply Bw.drewN | apply Bw.drew | (refine Below.setCell ?_ (by first | exact Nat.le_refl _ | omega | (simp; omega)) _) | (refine Bw.step ?_ (by assumption))))⟩
end Go.Proofs.Ytnmhhjgiakijgaa
