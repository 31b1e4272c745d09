/- Catches: Step in every state that a catch can be in. -/
import Derived.Test.YtnmhhjgiakijgaaD6
namespace Go.Proofs.Ytnmhhjgiakijgaa
open Go.RowKit
set_option linter.unusedVariables false
set_option linter.unusedSimpArgs false

/-- a state that a catch can be in -/
structure Gd (s : Ct) : Prop where
  had : s.had ≤ 114
  low : s.nx = 0 → s.bd.length < 112
  len : s.bd.length ≤ 112

theorem Gd.new (o : Int) : Gd (ct0 o) := ⟨by simp [ct0], by simp [ct0], by simp [ct0]⟩
theorem Gd.mk' {s : Ct} (h : Gd s) (hl : s.had < 114) (n f : Nat) : Gd (mkC s n f) := ⟨by show s.had + 1 ≤ 114; omega, h.low, h.len⟩
theorem Gd.fst {s : Ct} (h : Gd s) (h0 : s.nx = 0) (o : Nat) : Gd (fstC s o) := by
  have hl := h.low h0
  have hlen : (s.bd ++ [(o : Int)]).length = s.bd.length + 1 := by simp
  refine ⟨h.had, ?_, ?_⟩
  · intro h1
    show (s.bd ++ [(o : Int)]).length < 112
    have h2 : (if s.bd.length + 1 = 112 then 1 else 0) = 0 := h1
    rw [hlen]
    by_cases h3 : s.bd.length + 1 = 112
    · rw [if_pos h3] at h2; omega
    · omega
  · show (s.bd ++ [(o : Int)]).length ≤ 112
    rw [hlen]; omega
theorem Gd.tl {s : Ct} (h : Gd s) (n f : Nat) : Gd (tlC s n f) := ⟨h.had, fun h1 => by have h2 : (2 : Nat) = 0 := h1; omega, h.len⟩
theorem Gd.la {s : Ct} (h : Gd s) (n f : Nat) : Gd (laC s n f) := ⟨h.had, fun h1 => by have h2 : (3 : Nat) = 0 := h1; omega, h.len⟩

theorem stepC_gd {s : Ct} (h : Gd s) (near far : Nat) : Gd (stepC s near far).1 := by
  unfold stepC
  by_cases hs : ((s.had : Int) == 114 || (decide (3 ≤ s.nx) && !s.cu)) = true
  · rw [if_pos hs]; exact h
  · rw [if_neg hs]
    have hlt : s.had < 114 := by
      have := h.had
      simp at hs
      omega
    by_cases hc : s.cu = true
    · rw [if_pos hc]; exact h.mk' hlt _ _
    · rw [if_neg hc]
      match hn : s.nx with
      | 0 => exact (h.mk' hlt _ _).fst hn _
      | 1 => exact (h.mk' hlt _ _).tl _ _
      | 2 => exact (h.mk' hlt _ _).la _ _
      | _ + 3 => exact h.mk' hlt _ _

theorem step_calls (B g : Nat) (r : Option Nat) (s : Ct) (near far : Nat) (w : World) (h : CS w B g r s) (hg : Gd s) :
    Calls Try.prog 80 #[.pointer (some ⟨g, 0, none⟩), .int .u8 near, .int .u8 far] w (StepPost B g r w (stepC s near far)) := by
  by_cases hs : ((s.had : Int) == 114 || (decide (3 ≤ s.nx) && !s.cu)) = true
  · exact step_stop B g r s near far w h hs
  · have hlt : s.had < 114 := by
      have := hg.had
      simp at hs
      omega
    cases hc : s.cu with
    | true =>
      cases h4 : decide (3 ≤ s.nx) with
      | true => exact step_cutt B g r s near far w h hlt hc h4
      | false => exact step_cutf B g r s near far w h hlt hc h4
    | false =>
      have hn3 : s.nx < 3 := by
        rw [hc] at hs
        simp at hs
        omega
      match hn : s.nx, hn3 with
      | 0, _ => exact step_first B g r s near far w h hlt hc hn (hg.low hn)
      | 1, _ => exact step_tail B g r s near far w h hlt hc hn hg.len
      | 2, _ => exact step_last B g r s near far w h hlt hc hn hg.len
      | _ + 3, h3 => omega
end Go.Proofs.Ytnmhhjgiakijgaa
