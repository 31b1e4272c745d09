/- Catches in a row: what holds between two of them. -/
import Derived.Test.YtnmhhjgiakijgaaE8
namespace Go.Proofs.Ytnmhhjgiakijgaa
open Go.RowKit
set_option linter.unusedVariables false

/-- do these read as a frame with a good tail? -/
def goodR (L : List Int) : Bool := (rE L == 0) && (rA L && !rC L)
theorem hi_bad {o : Int} {xs ys : List Int} (hx : xs.length = 114) (hy : ys.length = 114) (bx : bytesOk xs) (hby : bytesOk ys) (h : goodR xs = false) : hiL o xs ys = false := by
  rw [high_iff hx hy bx hby, Bool.eq_false_iff]
  intro hh
  simp only [Bool.and_eq_true] at hh
  unfold goodR at h
  rw [hh.1.1.2, hh.1.2.1, hh.1.2.2] at h
  cases h
theorem hi_apart {o : Int} {xs ys : List Int} (hx : xs.length = 114) (hy : ys.length = 114) (bx : bytesOk xs) (hby : bytesOk ys) (h : xs ≠ ys) : hiL o xs ys = false := by
  rw [high_iff hx hy bx hby, show sameL xs ys = false from decide_eq_false h]
  simp
theorem set_ne {S : List Int} {j : Nat} {x : Int} (hj : j < S.length) (hx : x ≠ gt S j) : S.set j x ≠ S := by
  intro e
  have : gt (S.set j x) j = gt S j := by rw [e]
  rw [gt_set _ _ _ _ hj, if_pos rfl] at this
  exact hx this
theorem bytesOk_set {S : List Int} (h : bytesOk S) (j : Nat) {x : Int} (hx : 0 ≤ x ∧ x ≤ 255) : bytesOk (S.set j x) := by
  intro z hz
  rcases List.mem_or_eq_of_mem_set hz with h1 | h1
  · exact h z h1
  · rw [h1]; exact hx
/-- ahead of catch k of the row: the list of what went out so far; its last two -/
structure ChR (W wr : World) (S : List Int) (bad N k n2 cO : Nat) (AO : Option Addr) (hs : List Value) (Ax Ay : Option Addr) (cx cy : Nat) (L1 L0 : List Int) : Prop where
  kN : k ≤ N
  len : n2 = k + 2
  co : n2 ≤ cO
  out : Mn wr W.heap.size 22 1 (.slice AO n2 cO) n2 hs
  h1 : hs[k + 1]? = some (.slice Ax 114 cx)
  h0 : hs[k]? = some (.slice Ay 114 cy)
  x1 : Mn wr 0 50 1 (.slice Ax 114 cx) 114 (nums .u8 L1)
  x0 : Mn wr 0 50 1 (.slice Ay 114 cy) 114 (nums .u8 L0)
  gx : 114 ≤ cx
  gy : 114 ≤ cy
  ax : AO.map (·.block) ≠ Ax.map (·.block)
  ay : AO.map (·.block) ≠ Ay.map (·.block)
  b1 : bytesOk L1
  b0 : bytesOk L0
  low : k ≤ bad → L1 = S ∧ L0 = S
  high : bad < k → goodR L1 = false
  bel : Below W.heap.size W wr
theorem own_map (A : Option Addr) (n c : Nat) : (Value.slice A n c).ownBlock = A.map (·.block) := by cases A <;> rfl
theorem Mn.some114 {w : World} {B : Nat} {e : TypeId} {A : Option Addr} {c : Nat} {cs : List Value} (h : Mn w B e 1 (.slice A 114 c) 114 cs) : ∃ g, A = some ⟨g, 0, none⟩ ∧ B ≤ g ∧ g < w.heap.size := by
  obtain ⟨g, rfl⟩ := h.ex (by omega)
  exact ⟨g, rfl, h.block rfl⟩
theorem ChR.next {W wr wB w9 : World} {S : List Int} {bad N k n2 cO : Nat} {AO : Option Addr} {hs : List Value} {Ax Ay : Option Addr} {cx cy : Nat} {L1 L0 : List Int} {A5 AO' : Option Addr} {c5 cO' : Nat} {Z : List Int} {tmp : Obj}
    (h : ChR W wr S bad N k n2 cO AO hs Ax Ay cx cy L1 L0) (hk : k < N) (hAB : Below wr.heap.size wr wB) (x5 : Mn wB wr.heap.size 50 1 (.slice A5 114 c5) 114 (nums .u8 Z))
    (hg : (wB.alloc tmp).grownBy w9 (Value.slice AO n2 cO).ownBlock) (hm : Mn w9 W.heap.size 22 1 (.slice AO' (n2 + 1) cO') (n2 + 1) (hs ++ [.slice A5 114 c5]))
    (hat : AO'.map (·.block) = (Value.slice AO n2 cO).ownBlock ∨ AO'.map (·.block) = some (wB.alloc tmp).heap.size) (hc5 : 114 ≤ c5) (hco : n2 + 1 ≤ cO') (bZ : bytesOk Z)
    (low : k + 1 ≤ bad → Z = S) (high : bad < k + 1 → goodR Z = false) :
    ChR W w9 S bad N (k + 1) (n2 + 1) cO' AO' (hs ++ [.slice A5 114 c5]) A5 Ax c5 cx Z L1 := by
  have hsB : (wB.alloc tmp).heap.size = wB.heap.size + 1 := by simp
  have hbA : Below wB.heap.size wB (wB.alloc tmp) := (Below.refl _ _).alloc (Nat.le_refl _) _
  obtain ⟨g5, rfl, h5a, h5b⟩ := x5.some114
  obtain ⟨gx, rfl, -, hxb⟩ := h.x1.some114
  have hlen : hs.length = n2 := by have := h.out.1; omega
  have hn2 := h.len
  have hown : (Value.slice AO n2 cO).ownBlock = AO.map (·.block) := own_map _ _ _
  rw [hown] at hg hat
  have hsz := hAB.size
  have hne5 : (some g5 : Option Nat) ≠ AO.map (·.block) := fun e => by
    have := (h.out.block (g := g5) (by rw [hown]; exact e.symm)).2
    omega
  have hnex : (some gx : Option Nat) ≠ AO.map (·.block) := fun e => h.ax e.symm
  refine ⟨by omega, by omega, hco, hm, ?_, ?_, ((x5.mono (Nat.zero_le _)).below hbA).kept hg (.inr hne5), ((h.x1.below hAB).below hbA).kept hg (.inr hnex), hc5, h.gx, ?_, ?_, bZ, h.b1, fun hb => ⟨low hb, (h.low (by omega)).1⟩, high, ?_⟩
  · rw [List.getElem?_append_right (by omega), hlen, show k + 1 + 1 - n2 = 0 by omega]; rfl
  · rw [List.getElem?_append_left (by omega)]; exact h.h1
  · show AO'.map (·.block) ≠ some g5
    rcases hat with e | e
    · rw [e]; exact fun e2 => hne5 e2.symm
    · rw [e, hsB]; intro e2; cases e2; omega
  · show AO'.map (·.block) ≠ some gx
    rcases hat with e | e
    · rw [e]; exact h.ax
    · rw [e, hsB]; intro e2; cases e2; omega
  · refine ((h.bel.trans (hAB.mono (by have := h.bel.size; omega))).alloc (by have := h.bel.size; omega) tmp).grown hg (by have := h.bel.size; omega) fun q hq => (h.out.block (by rw [hown]; exact hq)).1
theorem chR_start {W : World} {S : List Int} {bad N : Nat} {A1 : Option Addr} {B : Nat} (hS : Mn W B 50 1 (.slice A1 114 114) 114 (nums .u8 S)) (bS : bytesOk S) :
    ChR W (W.alloc (.cells #[.slice A1 114 114, .slice A1 114 114] 22)) S bad N 0 2 2 (some ⟨W.heap.size, 0, none⟩) [.slice A1 114 114, .slice A1 114 114] A1 A1 114 114 S S := by
  obtain ⟨g, rfl, -, hb⟩ := hS.some114
  have h1 := (hS.mono (Nat.zero_le _)).alloc (.cells #[.slice (some ⟨g, 0, none⟩) 114 114, .slice (some ⟨g, 0, none⟩) 114 114] 22)
  have hne : (some W.heap.size : Option Nat) ≠ some g := by intro e; cases e; omega
  exact ⟨Nat.zero_le _, rfl, Nat.le_refl _, Mn.lit W 22 1 2 #[.slice (some ⟨g, 0, none⟩) 114 114, .slice (some ⟨g, 0, none⟩) 114 114] (Nat.le_refl _) rfl (by simp only [maxLen]; omega), rfl, rfl, h1, h1, Nat.le_refl _, Nat.le_refl _, hne, hne, bS, bS, fun _ => ⟨rfl, rfl⟩, fun h => absurd h (Nat.not_lt_zero _), (Below.refl _ _).alloc (Nat.le_refl _) _⟩
end Go.Proofs.Ytnmhhjgiakijgaa
