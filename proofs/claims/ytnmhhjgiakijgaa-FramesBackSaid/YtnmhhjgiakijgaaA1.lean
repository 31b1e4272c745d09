/- slices.Clone and slices.Clip at symbols; bits.whole, bits.Put: contracts. -/
import Derived.Test.YtnmhhjgiakijgaaA0
namespace Go.Proofs.Ytnmhhjgiakijgaa
open Go.RowKit
set_option linter.unusedVariables false

theorem info50 : (Try.prog.info? 50).map (fun i => (i.zero, i.size, i.bytes)) = some (some (.int .u8 0), 1, 1) := by kernel_rfl

theorem below_grown {w w' : World} {row : Option Nat} (hg : w.grownBy w' row) (hr : ∀ k, row = some k → w.heap.size ≤ k) : Below w.heap.size w w' :=
  (Below.refl _ _).grown hg (Nat.le_refl _) hr

set_option maxHeartbeats 400000 in
set_option maxRecDepth 20000 in
theorem clone50 (A : Option Addr) (n c : Nat) (cs : List Value) (w : World) (hr : Rv w A n cs) (h1 : ∀ u ∈ cs, u.oneCell' = true) (hc : n ≤ c) (hn : n ≤ 60000) :
    Calls Try.prog 100 #[.slice A n c] w fun e w' => ∃ A' c', e = .returned (.slice A' n c') ∧ n ≤ c' ∧ Mn w' w.heap.size 50 1 (.slice A' n c') n cs ∧ Below w.heap.size w w' := by
  cases A with
  | none =>
    have h0 : n = 0 := by
      rcases Nat.eq_zero_or_pos n with h | h
      · exact h
      · obtain ⟨b, o, e, _⟩ := hr.at_ h
        cases e
    subst h0
    have hcs : cs = [] := List.eq_nil_of_length_eq_zero hr.1
    subst hcs
    clear hr h1
    have hnil := fun wx => Lib.run_eql_slice_nil (P := Try.prog) wx 22 50 none 0 c 0 0 Try.underlying22
    go_enter Try.func100, Try.ntmps100
    go_wp2
    go_ret
    exact ⟨none, 0, rfl, Nat.le_refl _, Mn.nil _ _ _ _, Below.refl _ _⟩
  | some a =>
    have HR := Lib.hid hr
    have H1 := Lib.hid h1
    clear hr h1
    have hnil := fun wx => Lib.run_eql_slice_nil (P := Try.prog) wx 22 50 (some a) n c 0 0 Try.underlying22
    go_enter Try.func100, Try.ntmps100
    go_wp2_with (first
      | (at_builtin
         refine wpList_append_mn _ rfl _ _ _ rfl w.heap.size 50 _ 1 1 Try.underlying22 info50 rfl (by omega) (.slice (some ⟨w.heap.size, 0, none⟩) 0 0) 0 [] rfl (Mn.lit w 50 1 0 #[] (Nat.le_refl _) (by simp) (by omega)) (some a) n c cs rfl (by rw [Nat.mul_one]; exact HR.out.alloc _) H1.out (by omega) (by omega) (by simp) ?_
         intro A1 c1 w1 hc1 hm1 hg1 hat1))
    go_ret
    exact ⟨A1, c1, rfl, by omega, by simpa using hm1, ((Below.refl _ _).alloc (Nat.le_refl _) _).grown hg1 (by simp) (fun k hk => by simp [Value.ownBlock] at hk; omega)⟩

set_option maxHeartbeats 400000 in
set_option maxRecDepth 20000 in
theorem clip50 (A : Option Addr) (n c : Nat) (w : World) (hc : n ≤ c) (hm : c ≤ maxLen) :
    Calls Try.prog 101 #[.slice A n c] w fun e w' => e = .returned (.slice A n n) ∧ w = w' := by
  unfold maxLen at hm
  go_enter Try.func101, Try.ntmps101
  go_wp2
  go_ret
  exact ⟨rfl, rfl⟩

/-! ### run equations: the results behind names -/
section
variable {P : Program} (t t' : TypeId) (w : World)
theorem run_min64 (ats : Array TypeId) (x : Int) : (Builtin.min_ ats t #[.int .i64 x, .int .i64 64]).run P w = .ok (.int .i64 (cut64 x)) w := rfl
end

theorem ediv_shr (N L : Nat) : (N : Int) / 2 ^ L = ((shr N L : Nat) : Int) := by simp [shr]
theorem bits_and1 (M : Nat) (hM : M < 18446744073709551616) : bits .and .u64 (M : Int) 1 = ((low M : Nat) : Int) := by
  have h : bits .and .u64 (M : Int) 1 = IntKind.u64.wrap ((BitVec.ofInt 64 (M : Int) &&& BitVec.ofInt 64 1).toNat : Int) := rfl
  rw [h]
  have h2 : (BitVec.ofInt 64 (M : Int) &&& BitVec.ofInt 64 1).toNat = low M := by
    simp [low, Nat.and_one_is_mod]
    try omega
  rw [h2]
  have := low_lt M
  simp only [IntKind.wrap, IntKind.signed, IntKind.bits]
  simp
  try omega
theorem bits_and_shr (N L : Nat) (hN : N < 18446744073709551616) : bits .and .u64 ((N : Int) / 2 ^ L) 1 = ((low (shr N L) : Nat) : Int) := by
  rw [ediv_shr]
  exact bits_and1 _ (Nat.lt_of_le_of_lt (shr_le _ _) hN)
end Go.Proofs.Ytnmhhjgiakijgaa
