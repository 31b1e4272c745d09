/- Catches, the document's: Step. -/
import Derived.Test.YtnmhhjgiakijgaaE5
namespace Go.Proofs.Ytnmhhjgiakijgaa
open Go.RowKit
set_option linter.unusedVariables false
set_option linter.unusedSimpArgs false

/-- a catch of the document's in memory; all that it may write lies from B on; a, b: its rows' blocks -/
def RS (w : World) (B g : Nat) (a b : Option Nat) (o : Int) (n : Nat) (x y : Nat → Nat) : Prop :=
  B ≤ g ∧ ∃ (A1 : Option Addr) (c1 : Nat) (A2 : Option Addr) (c2 : Nat), Blk w g #[.int .i64 o, .slice A1 n c1, .slice A2 n c2] 139 ∧
    Mn w (g + 1) 50 1 (.slice A1 n c1) n (nums .u8 (kl x n)) ∧ Mn w (g + 1) 50 1 (.slice A2 n c2) n (nums .u8 (kl y n)) ∧ n ≤ c1 ∧ n ≤ c2 ∧ n ≤ 114 ∧
    (Value.slice A1 n c1).ownBlock = a ∧ (Value.slice A2 n c2).ownBlock = b ∧ ∀ k, a = some k → b ≠ some k
/-- what its step leaves alone -/
def KeepR (w w' : World) (g : Nat) (a b a' b' : Option Nat) : Prop :=
  (∀ k, k < w.heap.size → k ≠ g → a ≠ some k → b ≠ some k → w'.heap[k]? = w.heap[k]?) ∧ (a' = a ∨ ∃ k, a' = some k ∧ w.heap.size ≤ k) ∧ (b' = b ∨ ∃ k, b' = some k ∧ w.heap.size ≤ k)
theorem RS.same {w w' : World} {B g : Nat} {a b : Option Nat} {o : Int} {n : Nat} {x y : Nat → Nat} (h : RS w B g a b o n x y) (hg : w'.heap[g]? = w.heap[g]?) (ha : ∀ k, a = some k → w'.heap[k]? = w.heap[k]?) (hb : ∀ k, b = some k → w'.heap[k]? = w.heap[k]?) : RS w' B g a b o n x y := by
  obtain ⟨h1, A1, c1, A2, c2, h2, h3, h4, h5, h6, h7, h8, h9, h10⟩ := h
  exact ⟨h1, A1, c1, A2, c2, hg.trans h2, h3.same fun k hk _ => ha k (by rw [← h8]; exact hk), h4.same fun k hk _ => hb k (by rw [← h9]; exact hk), h5, h6, h7, h8, h9, h10⟩
theorem RS.lt {w : World} {B g : Nat} {a b : Option Nat} {o : Int} {n : Nat} {x y : Nat → Nat} (h : RS w B g a b o n x y) : g < w.heap.size := by
  obtain ⟨h1, A1, c1, A2, c2, h2, -⟩ := h
  exact h2.lt
theorem RS.rowa {w : World} {B g : Nat} {a b : Option Nat} {o : Int} {n : Nat} {x y : Nat → Nat} (h : RS w B g a b o n x y) {k : Nat} (hk : a = some k) : g < k ∧ k < w.heap.size := by
  obtain ⟨h1, A1, c1, A2, c2, h2, h3, h4, h5, h6, h7, h8, h9, h10⟩ := h
  have := h3.block (g := k) (by rw [h8]; exact hk)
  omega
theorem RS.rowb {w : World} {B g : Nat} {a b : Option Nat} {o : Int} {n : Nat} {x y : Nat → Nat} (h : RS w B g a b o n x y) {k : Nat} (hk : b = some k) : g < k ∧ k < w.heap.size := by
  obtain ⟨h1, A1, c1, A2, c2, h2, h3, h4, h5, h6, h7, h8, h9, h10⟩ := h
  have := h4.block (g := k) (by rw [h9]; exact hk)
  omega
theorem RS.below {w w' : World} {B g : Nat} {a b : Option Nat} {o : Int} {n : Nat} {x y : Nat → Nat} (h : RS w B g a b o n x y) (hb : Below w.heap.size w w') : RS w' B g a b o n x y :=
  h.same (hb.block g h.lt) (fun k hk => hb.block k (h.rowa hk).2) (fun k hk => hb.block k (h.rowb hk).2)
theorem RS.rc {w : World} {B g : Nat} {a b : Option Nat} {o : Int} {n : Nat} {x y : Nat → Nat} (h : RS w B g a b o n x y) : ∃ A1 c1 A2 c2, RC w g o A1 A2 c1 c2 n x y := by
  obtain ⟨h1, A1, c1, A2, c2, h2, h3, h4, h5, h6, h7, h8, h9, h10⟩ := h
  exact ⟨A1, c1, A2, c2, h2, h3.rd, h4.rd, h5, h6, h7⟩
theorem RS.new (w : World) (o : Int) (x y : Nat → Nat) : RS (w.alloc (.cells #[.int .i64 o, .slice none 0 0, .slice none 0 0] 139)) w.heap.size w.heap.size none none o 0 x y :=
  ⟨Nat.le_refl _, none, 0, none, 0, Blk.new rfl, Mn.nil _ _ _ _, Mn.nil _ _ _ _, Nat.le_refl _, Nat.le_refl _, by omega, rfl, rfl, fun k hk => by cases hk⟩

/-- one row grows, the other and the block stay -/
theorem half {w w0 w2 : World} {B g n m : Nat} {V1 V1' V2 : Value} {cs : Array Value} {ds es : List Value} (hB : B ≤ g) (hb : Blk w g cs 139) (h2 : Mn w (g + 1) 50 1 V2 m ds) (h1 : Mn w (g + 1) 50 1 V1 n es)
    (hbel : Below w.heap.size w w0) (hg : w0.grownBy w2 V1.ownBlock) (hat : V1'.ownBlock = V1.ownBlock ∨ V1'.ownBlock = some w0.heap.size) (hd : ∀ k, V1.ownBlock = some k → V2.ownBlock ≠ some k) :
    Blk w2 g cs 139 ∧ Mn w2 (g + 1) 50 1 V2 m ds ∧ (∀ k, V1'.ownBlock = some k → V2.ownBlock ≠ some k) ∧ (∀ k, k < w.heap.size → V1.ownBlock ≠ some k → w2.heap[k]? = w.heap[k]?) ∧
      (V1'.ownBlock = V1.ownBlock ∨ ∃ k, V1'.ownBlock = some k ∧ w.heap.size ≤ k) ∧ Below B w w2 := by
  have hs := hbel.size
  have hne : V1.ownBlock ≠ some g := fun e => by have := (h1.block e).1; omega
  refine ⟨(hb.below hbel).grown hg hne, (h2.below hbel).kept hg ?_, ?_, ?_, ?_, ?_⟩
  · cases hv : V2.ownBlock with
    | none => exact .inl rfl
    | some k => exact .inr fun e => hd k e.symm hv
  · intro k hk
    rcases hat with e | e
    · exact hd k (by rw [← e]; exact hk)
    · rw [e] at hk
      cases hk
      intro e2
      have := (h2.block e2).2
      omega
  · intro k hk hk2
    exact (hg.block k (by omega) (fun e => hk2 e.symm)).trans (hbel.block k hk)
  · rcases hat with e | e
    · exact .inl e
    · exact .inr ⟨_, e, hs⟩
  · exact (hbel.mono (by have := hb.lt; omega)).grown hg (by have := hb.lt; omega) (fun q hq => by have := (h1.block hq).1; omega)
end Go.Proofs.Ytnmhhjgiakijgaa
