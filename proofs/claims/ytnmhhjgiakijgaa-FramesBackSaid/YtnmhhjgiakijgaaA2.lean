/- bits.Put: its contract. -/
import Derived.Test.YtnmhhjgiakijgaaA1
namespace Go.Proofs.Ytnmhhjgiakijgaa
open Go.RowKit
set_option linter.unusedVariables false

/-- what holds at Put's label -/
def PutRel (w : World) (xs : List Int) (N : Nat) (b : Int) (v7 v8 : Value) (w' : World) : Prop :=
  ∃ (l : Int) (m c' : Nat) (A' : Option Addr) (ys : List Int), v8 = .int .i64 l ∧ v7 = .slice A' m c' ∧ l ≤ 64 ∧ m ≤ c' ∧ m + l.toNat ≤ 60064 ∧ Mn w' w.heap.size 50 1 (.slice A' m c') m (nums .u8 ys) ∧
    ys ++ putL N l.toNat = putA xs N b ∧ Below w.heap.size w w'

set_option maxHeartbeats 1600000 in
set_option maxRecDepth 20000 in
theorem put_calls (A : Option Addr) (n c : Nat) (xs : List Int) (N : Nat) (b : Int) (w : World) (hr : Rd w .u8 A n xs) (hc : n ≤ c) (hn : n ≤ 60000) (hN : N < 18446744073709551616) :
    Calls Try.prog 31 #[.slice A n c, .int .u64 N, .int .i64 b] w fun e w' => ∃ A' m, e = .returned (.slice A' m m) ∧ m = n + many b ∧ Mn w' w.heap.size 50 1 (.slice A' m m) m (nums .u8 (putA xs N b)) ∧ Below w.heap.size w w' := by
  have HR := Lib.hid hr
  have HN := Lib.hid hN
  have HL := Lib.hid hr.len
  clear hr hN
  have hmin := fun ats ty wx => run_min64 (P := Try.prog) ty wx ats b
  go_enter Try.func31, Try.ntmps31
  go_wp2
  refine wp_scope_jumps 0 (fun a' w' => ∃ (v7 v8 u9 u10 u11 u12 u13 u14 u15 u16 u17 u18 u19 u20 u21 u22 u23 u24 u25 u26 u27 : Value), PutRel w xs N b v7 v8 w' ∧
    a' = { tmps := #[.slice A n c, .int .u64 N, .int .i64 b, undef, undef, undef, .slice none 0 0, v7, v8, u9, u10, u11, u12, u13, u14, u15, u16, u17, u18, u19, u20, u21, u22, u23, u24, u25, u26, u27], defers := [] })
    (fun a' _ => (intOf (a'.tmps.getD 8 undef)).toNat) rfl ?_ ?_
  · go_wp2_with (go_at_call 100; refine (clone50 A n c (nums .u8 xs) _ HR.out (nums_one _ _) hc hn).mono ?_; rintro e w1 ⟨A', c', rfl, hcc, hm, hb⟩)
    go_step3
    clear hmin
    have hl64 := cut64_le b
    have hyl : xs ++ putL N (cut64 b).toNat = putA xs N b := rfl
    have hsum : n + (cut64 b).toNat ≤ 60064 := by omega
    generalize cut64 b = l at *
    by_cases hl0 : l ≤ 0
    · have hz : putL N l.toNat = [] := by rw [show l.toNat = 0 from by omega]; rfl
      have hys : xs = putA xs N b := by rw [hz] at hyl; simpa using hyl
      rw [hys] at hm
      have hmm : n = n + many b := by have := hm.1; rw [nums_length, putA_length] at this; have := HL.out; omega
      clear hyl hz
      have HM := Lib.hid hmm
      clear hmm
      go_wp2_with (go_at_call 101; refine (clip50 _ _ _ _ hcc (Mn.cap_le hm)).mono ?_; rintro e w2 ⟨rfl, rfl⟩)
      simp only [Exit.jump]
      go_ret
      exact ⟨_, _, rfl, HM.out, hm.clip, hb⟩
    · obtain ⟨L, rfl⟩ : ∃ L : Nat, l = (L : Int) + 1 := ⟨(l - 1).toNat, by omega⟩
      have hlo := low_lt (shr N L)
      have hand := bits_and_shr N L HN.out
      have HY := Lib.hid hyl
      clear hyl
      go_wp2_with (first
        | (at_builtin
           refine wpList_append_mn _ rfl _ _ _ rfl w.heap.size 50 _ 1 1 Try.underlying22 info50 rfl (by omega) (.slice A' n c') n (nums .u8 xs) rfl (hm.alloc _) _ 1 1 (nums .u8 [bitOf N L]) rfl rv_one (nums_one _ _) (by omega) (by omega) (by simp; have := hb.size; omega) ?_
           intro A2 c2 w2 hc2 hm2 hg2 hat2))
      go_step3
      have e1 : xs ++ [bitOf N L] ++ putL N L = putA xs N b := by
        have := HY.out
        rw [show ((L : Int) + 1).toNat = L + 1 from by omega] at this
        rw [← this, List.append_assoc]; rfl
      have hb2 : Below w.heap.size w w2 := (hb.alloc hb.size _).grown hg2 (by simp; have := hb.size; omega) (fun k hk => (hm.block hk).1)
      have hrel : PutRel w xs N b (.slice A2 (n + 1) c2) (.int .i64 (L : Int)) w2 :=
        ⟨L, n + 1, c2, A2, xs ++ [bitOf N L], rfl, rfl, by omega, hc2, by omega, by rw [nums_append]; exact hm2, by simpa using e1, hb2⟩
      exact ⟨rfl, _, _, _, _, _, _, _, _, _, _, _, _, _, _, _, _, _, _, _, _, _, hrel, rfl⟩
  · rintro a' w1 ⟨v7, v8, u9, u10, u11, u12, u13, u14, u15, u16, u17, u18, u19, u20, u21, u22, u23, u24, u25, u26, u27, ⟨l, m, c', A', ys, rfl, rfl, hl64, hcc, hsum, hm, hyl, hb⟩, rfl⟩
    by_cases hl0 : l ≤ 0
    · have hz : putL N l.toNat = [] := by rw [show l.toNat = 0 from by omega]; rfl
      have hys : ys = putA xs N b := by rw [hz] at hyl; simpa using hyl
      subst hys
      have hmm : m = n + many b := by have := hm.1; rw [nums_length, putA_length] at this; have := HL.out; omega
      clear hyl hz
      have HM := Lib.hid hmm
      clear hmm
      go_wp2_with (go_at_call 101; refine (clip50 _ _ _ _ hcc (Mn.cap_le hm)).mono ?_; rintro e w2 ⟨rfl, rfl⟩)
      simp only [Exit.jump]
      go_ret
      exact ⟨_, _, rfl, HM.out, hm.clip, hb⟩
    · obtain ⟨L, rfl⟩ : ∃ L : Nat, l = (L : Int) + 1 := ⟨(l - 1).toNat, by omega⟩
      have hlo := low_lt (shr N L)
      have hand := bits_and_shr N L HN.out
      have HY := Lib.hid hyl
      clear hyl
      go_wp2_with (first
        | (at_builtin
           refine wpList_append_mn _ rfl _ _ _ rfl w.heap.size 50 _ 1 1 Try.underlying22 info50 rfl (by omega) (.slice A' m c') m (nums .u8 ys) rfl (hm.alloc _) _ 1 1 (nums .u8 [bitOf N L]) rfl rv_one (nums_one _ _) (by omega) (by omega) (by simp; have := hb.size; omega) ?_
           intro A2 c2 w2 hc2 hm2 hg2 hat2))
      go_step3
      have e1 : ys ++ [bitOf N L] ++ putL N L = putA xs N b := by
        have := HY.out
        rw [show ((L : Int) + 1).toNat = L + 1 from by omega] at this
        rw [← this, List.append_assoc]; rfl
      have hb2 : Below w.heap.size w w2 := (hb.alloc hb.size _).grown hg2 (by simp; have := hb.size; omega) (fun k hk => (hm.block hk).1)
      have hrel : PutRel w xs N b (.slice A2 (m + 1) c2) (.int .i64 (L : Int)) w2 :=
        ⟨L, m + 1, c2, A2, ys ++ [bitOf N L], rfl, rfl, by omega, hc2, by omega, by rw [nums_append]; exact hm2, by simpa using e1, hb2⟩
      exact ⟨rfl, ⟨_, _, _, _, _, _, _, _, _, _, _, _, _, _, _, _, _, _, _, _, _, hrel, rfl⟩, by simp [intOf]⟩
end Go.Proofs.Ytnmhhjgiakijgaa
