/- Catches: a catch beside other memory. -/
import Derived.Test.YtnmhhjgiakijgaaD7
namespace Go.Proofs.Ytnmhhjgiakijgaa
open Go.RowKit
set_option linter.unusedVariables false

section
variable {w w' w1 : World} {B g : Nat} {r r' : Option Nat} {s : Ct}
theorem CS.same (h : CS w B g r s) (hg : w'.heap[g]? = w.heap[g]?) (hr : ∀ k, r = some k → w'.heap[k]? = w.heap[k]?) : CS w' B g r s := by
  obtain ⟨h1, A, c, h2, h3, h4, h5⟩ := h
  exact ⟨h1, A, c, hg.trans h2, h3.same fun k hk _ => hr k (by rw [← h5]; exact hk), h4, h5⟩
theorem CS.lt (h : CS w B g r s) : g < w.heap.size := by
  obtain ⟨h1, A, c, h2, -⟩ := h
  exact h2.lt
theorem CS.ge (h : CS w B g r s) : B ≤ g := h.1
theorem CS.row (h : CS w B g r s) {k : Nat} (hk : r = some k) : g < k ∧ k < w.heap.size := by
  obtain ⟨h1, A, c, h2, h3, h4, h5⟩ := h
  have := h3.block (g := k) (by rw [h5]; exact hk)
  omega
theorem CS.mono {B' : Nat} (h : CS w B g r s) (hB : B' ≤ B) : CS w B' g r s := by
  obtain ⟨h1, A, c, h2⟩ := h
  exact ⟨by omega, A, c, h2⟩
theorem CS.grown {row : Option Nat} (h : CS w B g r s) (hg : w.grownBy w' row) (h1 : row ≠ some g) (h2 : ∀ k, row = some k → r ≠ some k) : CS w' B g r s :=
  h.same (hg.block g h.lt (fun e => h1 e.symm)) fun k hk => hg.block k (h.row hk).2 fun e => h2 k e.symm hk
/-- another row beside a catch's step -/
theorem Mn.keep {e : TypeId} {size n : Nat} {v : Value} {cs : List Value} (h : Mn w B e size v n cs) (hk : Keep w w' g r r') (h1 : v.ownBlock ≠ some g) (h2 : ∀ k, v.ownBlock = some k → r ≠ some k) : Mn w' B e size v n cs :=
  h.same fun k hv hlt => hk.1 k hlt (fun e => h1 (e ▸ hv)) (h2 k hv)
theorem Keep.apart {k : Nat} (hk : Keep w w' g r r') (hlt : k < w.heap.size) (h : r ≠ some k) : r' ≠ some k := by
  rcases hk.2 with e | ⟨q, e, hq⟩
  · rw [e]; exact h
  · rw [e]; intro e2; cases e2; omega
/-- behind an append onto a row that is not the catch's: the catch stays; the row stays apart -/
theorem CS.append {row row' : Option Nat} {tmp : Obj} (h : CS w B g r s) (hg : (w.alloc tmp).grownBy w' row) (h1 : row ≠ some g) (h2 : ∀ k, row = some k → r ≠ some k)
    (hat : row' = row ∨ row' = some (w.alloc tmp).heap.size) : CS w' B g r s ∧ row' ≠ some g ∧ ∀ k, row' = some k → r ≠ some k := by
  have h3 := h.below ((Below.refl w.heap.size w).alloc (Nat.le_refl _) tmp)
  have hs : (w.alloc tmp).heap.size = w.heap.size + 1 := by simp
  refine ⟨h3.grown hg h1 h2, ?_, ?_⟩
  · rcases hat with e | e
    · rw [e]; exact h1
    · rw [e, hs]; intro e2; cases e2; have := h.lt; omega
  · intro k hk
    rcases hat with e | e
    · exact h2 k (e ▸ hk)
    · rw [e, hs] at hk
      cases hk
      intro e2
      have := (h.row e2).2
      omega
end
end Go.Proofs.Ytnmhhjgiakijgaa
